/-
  texts CmdM ScrP TxtP56 Home56 RHome56: parts of the proof; conditions stand with each theorem.
-/
import Derived.Test.YtcfelnhmifkelaaGreatDoorVG15
import Derived.Lib.ItoaLen
import Derived.Test.YtcfelnhmifkelaaGreatDoorVG1
import Derived.Test.YtcfelnhmifkelaaGreatDoorVG14
import Derived.Test.YtcfelnhmifkelaaGreatDoorVG11
import Derived.BigQuiet
namespace Go.Proofs.YtcfelnhmifkelaaGreatDoor
open Go.RowKit
set_option maxRecDepth 100000
set_option linter.unusedVariables false
set_option linter.unusedSimpArgs false
def nmV (c:Cmd):ByteArray:=⟨c.name.toArray⟩
theorem nmV_data (c:Cmd):(nmV c).data.toList=c.name:=rfl
theorem ba_eta (b:ByteArray):(⟨b.data.toList.toArray⟩:ByteArray)=b:=by cases b;rfl
def cmdCells (p:Cmd × Value):List Value:=[.int .i64 p.1.kind,.int .i64 p.1.x,.int .i64 p.1.y,.int .i64 p.1.n,.int .i64 p.1.m,.string (nmV p.1),p.2,.int .i64 p.1.p,.int .i64 p.1.dx,.int .i64 p.1.dy]
theorem flat10 {α:Type} (f:α→List Value)(hf:∀ x,(f x).length=10):∀ (ps:List α)(k:Nat)(hk:k < ps.length)(i:Nat),i < 10→(ps.flatMap f)[10*k+i]?=(f ps[k])[i]?
 | p :: ps,0,_,i,hi=>by
  rw[List.flatMap_cons,List.getElem?_append_left (by rw[hf];omega)]
  simp
 | p :: ps,k+1,hk,i,hi=>by
  rw[List.flatMap_cons,List.getElem?_append_right (by rw[hf];omega),hf,show 10*(k+1)+i - 10=10*k+i by omega,flat10 f hf ps k (by simpa using hk) i hi];rfl
def CelsV (w:World)(cs:List Cmd)(svs:List Value):Prop:=svs.length=cs.length∧∀ i (h:i < cs.length)(h2:i < svs.length),∃ A k,svs[i]=.slice A cs[i].cells.length k∧Cls w A cs[i].cells
theorem CelsV.ext {w w':World}{cs:List Cmd}{svs:List Value}(h:CelsV w cs svs)(hb:Below w.heap.size w w'):CelsV w' cs svs:=by
 refine⟨h.1,fun i h1 h2=>?_⟩;obtain⟨A,k,e,h3⟩:=h.2 i h1 h2;exact⟨A,k,e,h3.ext hb⟩
theorem CelsV.nil (w:World):CelsV w [] []:=⟨rfl,fun i h=>absurd h (Nat.not_lt_zero _)⟩
theorem CelsV.snoc {w:World}{cs:List Cmd}{svs:List Value}(h:CelsV w cs svs){c:Cmd}{A:Option Addr}{k:Nat}(hc:Cls w A c.cells):CelsV w (cs ++ [c]) (svs ++ [.slice A c.cells.length k]):=by
 refine⟨by rw[List.length_append,List.length_append,h.1];rfl,fun i h1 h2=>?_⟩;by_cases hi:i < cs.length
 ·obtain⟨B,m,e,h3⟩:=h.2 i hi (by rw[h.1];exact hi);rw[List.getElem_append_left (by rw[h.1];exact hi),List.getElem_append_left hi];exact⟨B,m,e,h3⟩
 ·have hi2:i=cs.length:=by simp at h1;omega
  subst hi2;refine⟨A,k,?_,?_⟩
  ·rw[List.getElem_append_right (by rw[h.1];exact Nat.le_refl _)];simp[h.1]
  ·simpa using hc
def CmsA (w:World)(v:Value)(cs:List Cmd):Prop:=∃ A c svs,v=.slice A cs.length c∧CelsV w cs svs∧Reads w w.heap.size 10 A cs.length ((cs.zip svs).flatMap cmdCells)∧cs.length≤9223372036854775807
theorem CmsA.ext {w w':World}{v:Value}{cs:List Cmd}(h:CmsA w v cs)(hb:Below w.heap.size w w'):CmsA w' v cs:=by
 obtain⟨A,c,svs,e,h1,h2,h3⟩:=h;exact⟨A,c,svs,e,h1.ext hb,(Reads.below h2 hb).more hb.size,h3⟩
theorem CmsA.form {w:World}{v:Value}{cs:List Cmd}(h:CmsA w v cs):∃ A c,v=.slice A cs.length c:=by
 obtain⟨A,c,svs,e,-⟩:=h;exact⟨A,c,e⟩
theorem CmsA.le {w:World}{v:Value}{cs:List Cmd}(h:CmsA w v cs):cs.length≤9223372036854775807:=by
 obtain⟨A,c,svs,e,-,-,h3⟩:=h;exact h3
theorem CmsA.nil (w:World):CmsA w (.slice none 0 0) []:=⟨none,0,[],rfl,CelsV.nil w,Reads.none_,by simp⟩
theorem CmsA.at_ {w:World}{v:Value}{cs:List Cmd}{k:Nat}(h:CmsA w v cs)(hk:k < cs.length):∃ b o c A n,v=.slice (some ⟨b,o,none⟩) cs.length c∧b < w.heap.size∧Cls w A cs[k].cells∧
  w.cell? ⟨b,o+k*10,none⟩=some (.int .i64 cs[k].kind)∧w.cell? ⟨b,o+k*10+1,none⟩=some (.int .i64 cs[k].x)∧w.cell? ⟨b,o+k*10+2,none⟩=some (.int .i64 cs[k].y)∧w.cell? ⟨b,o+k*10+3,none⟩=some (.int .i64 cs[k].n)∧w.cell? ⟨b,o+k*10+4,none⟩=some (.int .i64 cs[k].m)∧
  w.cell? ⟨b,o+k*10+5,none⟩=some (.string (nmV cs[k]))∧w.cell? ⟨b,o+k*10+6,none⟩=some (.slice A cs[k].cells.length n)∧w.cell? ⟨b,o+k*10+7,none⟩=some (.int .i64 cs[k].p)∧w.cell? ⟨b,o+k*10+8,none⟩=some (.int .i64 cs[k].dx)∧w.cell? ⟨b,o+k*10+9,none⟩=some (.int .i64 cs[k].dy):=by
 obtain⟨A,c,svs,e,h1,h2,h3⟩:=h;obtain⟨ad,rfl,hb,hc⟩:=h2.2 (by omega);have hz:(cs.zip svs).length=cs.length:=by rw[List.length_zip,h1.1];omega
 have f0:=flat10 cmdCells (fun _=>rfl) (cs.zip svs) 0 (by omega) 0 (by omega);have h0:=hc _ _ f0;obtain⟨b,o,sp⟩:=ad;obtain rfl:=spot_none h0;have hsv:k < svs.length:=by rw[h1.1];exact hk
 have hzk:(cs.zip svs)[k]'(by omega)=(cs[k],svs[k]):=List.getElem_zip;obtain⟨B,n,e6,hcl⟩:=h1.2 k hk hsv;have g:∀ i,i < 10→∀ u,(cmdCells (cs[k],svs[k]))[i]?=some u→w.cell? ⟨b,o+k*10+i,none⟩=some u:=fun i hi u hu=>by
  have:=hc _ _ ((flat10 cmdCells (fun _=>rfl) (cs.zip svs) k (by omega) i hi).trans (by rw[hzk];exact hu));rw[addr_add] at this;rw[← this,show o+k*10+i=o+(10*k+i) by omega]
 exact⟨b,o,c,B,n,e,hb,hcl,g 0 (by omega) _ rfl,g 1 (by omega) _ rfl,g 2 (by omega) _ rfl,g 3 (by omega) _ rfl,g 4 (by omega) _ rfl,g 5 (by omega) _ rfl,g 6 (by omega) _ (by rw[← e6];rfl),g 7 (by omega) _ rfl,g 8 (by omega) _ rfl,g 9 (by omega) _ rfl⟩
def OwnK (w:World)(base:Nat)(v:Value)(cs:List Cmd):Prop:=∃ svs,CelsV w cs svs∧w.ownsRow base 34 10 v cs.length ((cs.zip svs).flatMap cmdCells)∧∀ sv ∈ svs,∀ ad n k,sv=.slice (some ad) n k→n≠0→v.ownBlock≠some ad.block∧ad.block < w.heap.size
theorem OwnK.nil (w:World)(base:Nat):OwnK w base (.slice none 0 0) []:=⟨[],CelsV.nil w,World.ownsRow_nil _ _ _ _,fun sv h=>by cases h⟩
theorem OwnK.ext {w w':World}{base:Nat}{v:Value}{cs:List Cmd}(h:OwnK w base v cs)(hb:Below w.heap.size w w'):OwnK w' base v cs:=by
 obtain⟨svs,h1,h2,h3⟩:=h;exact⟨svs,h1.ext hb,own_below h2 hb,fun sv hs ad n k e h0=>⟨(h3 sv hs ad n k e h0).1,Nat.lt_of_lt_of_le (h3 sv hs ad n k e h0).2 hb.size⟩⟩
theorem OwnK.cms {w:World}{base:Nat}{v:Value}{cs:List Cmd}(h:OwnK w base v cs):CmsA w v cs:=by
 obtain⟨svs,h1,h2,-⟩:=h;obtain⟨A,c,e,h3,-⟩:=own_form h2;exact⟨A,c,svs,e,h1,h3.1,h3.2⟩
theorem OwnK.blk_lt {w:World}{base:Nat}{v:Value}{cs:List Cmd}(h:OwnK w base v cs){g:Nat}(hg:v.ownBlock=some g):g < w.heap.size:=by
 obtain⟨svs,h1,h2,-⟩:=h;rcases h2.2 with ⟨rfl,_⟩ | ⟨g',cap,cur,rfl,h4,h5,_⟩
 ·simp[Value.ownBlock] at hg
 ·simp[Value.ownBlock] at hg;subst hg;rcases Nat.lt_or_ge g' w.heap.size with hlt | hge
  ·exact hlt
  ·rw[Array.getElem?_eq_none hge] at h5;cases h5
theorem Tryz.infoCommand:(Tryz.prog.info? 34).map (fun i=>(i.zero,i.size,i.bytes))=some (some (.agg #[.int .i64 0,.int .i64 0,.int .i64 0,.int .i64 0,.int .i64 0,.string ⟨#[]⟩,.slice none 0 0,.int .i64 0,.int .i64 0,.int .i64 0]),10,104):=by kernel_rfl
theorem Reads.grown56 {w w':World}{B size n:Nat}{A:Option Addr}{xs:List Value}(h:Reads w B size A n xs){row:Option Nat}(hg:w.grownBy w' row)(hB:B≤w.heap.size)(hr:∀ ad,A=some ad→row≠some ad.block):Reads w' B size A n xs:=by
 refine⟨h.1,fun h0=>?_⟩;obtain⟨ad,e,hb,hc⟩:=h.2 h0;refine⟨ad,e,hb,fun k u hu=>?_⟩;rw[← hc k u hu];refine World.cell?_of_block ?_;rw[block_of_add];exact hg.block _ (by omega) (fun e2=>hr ad e (by rw[e2]))
theorem wpList_pushK {wr:World}{ops:Array Oper}{rest:List Oper}{o:Oper}{a:Act}{Q:Exit→Act→World→Prop}(hgd:o.guard=none)(s x:Operand)(t:TypeId)
  (ho:o.op=.call { callee:=.builtin .append,args:=#[s,x],argTypes:=#[t,t] })
  (base:Nat) (ht:Tryz.prog.underlying t=some (.slice 34))
  (v:Value) (cs:List Cmd) (hs:a.eval s=v) (hown:OwnK wr base v cs)
  (c:Cmd) (A:Option Addr) (k:Nat) (hc:Cls wr A c.cells) (hA:∀ ad,A=some ad→v.ownBlock≠some ad.block) (hx:a.eval x=.slice (some ⟨wr.heap.size,0,none⟩) 1 1)
  (hn:cs.length < 4294967296) (hbase:base≤wr.heap.size)
  (h:∀ v' w',OwnK w' base v' (cs ++ [c])→Below base wr w'→wpList Tryz.prog ops Q rest (a.put o.dst v') w') :
  wpList Tryz.prog ops Q (o :: rest) a (wr.alloc (.cells #[.int .i64 c.kind,.int .i64 c.x,.int .i64 c.y,.int .i64 c.n,.int .i64 c.m,.string (nmV c),.slice A c.cells.length k,.int .i64 c.p,.int .i64 c.dx,.int .i64 c.dy] 34)):=by
 obtain⟨svs,h1,h2,hS⟩:=hown;obtain⟨i0,hi0,hz0,hz1,hz2⟩:=info_parts Tryz.infoCommand;have hnb:=below_new wr (.cells #[.int .i64 c.kind,.int .i64 c.x,.int .i64 c.y,.int .i64 c.n,.int .i64 c.m,.string (nmV c),.slice A c.cells.length k,.int .i64 c.p,.int .i64 c.dx,.int .i64 c.dy] 34);have hrd:Reads (wr.alloc (.cells #[.int .i64 c.kind,.int .i64 c.x,.int .i64 c.y,.int .i64 c.n,.int .i64 c.m,.string (nmV c),.slice A c.cells.length k,.int .i64 c.p,.int .i64 c.dx,.int .i64 c.dy] 34)) (wr.heap.size+1) 10 (some ⟨wr.heap.size,0,none⟩) 1 (cmdCells (c,.slice A c.cells.length k)):=by
  refine⟨rfl,fun _=>⟨_,rfl,by simp,fun j u hu=>?_⟩⟩;rw[addr_add,Nat.zero_add];have:=(Blk.new wr 34 #[.int .i64 c.kind,.int .i64 c.x,.int .i64 c.y,.int .i64 c.n,.int .i64 c.m,.string (nmV c),.slice A c.cells.length k,.int .i64 c.p,.int .i64 c.dx,.int .i64 c.dy]).cell j;rw[this];rw[← hu];simp[cmdCells]
 refine wpList_append_any _ hgd s x t ho base 34 i0 _ 10 104 ht hi0 hz0 hz1 hz2 rfl (by decide) v cs.length _ hs (own_below h2 hnb) _ _ 1 1 _ hx hrd (by simp[cmdCells,Value.oneCell']) (by unfold maxLen;omega) (by omega) (by simp;omega) ?_;intro v' w' h3 hg hv;have hvl:∀ g,v.ownBlock=some g→g < wr.heap.size:=fun g hg=>OwnK.blk_lt ⟨svs,h1,h2,hS⟩ hg;have key:∀ ad:Addr,v.ownBlock≠some ad.block→ad.block < wr.heap.size→v'.ownBlock≠some ad.block∧ad.block < w'.heap.size:=by
  intro ad h5 h6;refine⟨?_,by have:=hg.size;simp at this;omega⟩;rcases hv with hv | hv
  ·rw[hv];exact h5
  ·rw[hv];intro e;injection e with e
   simp at e;omega
 have cl:∀ (B:Option Addr) (ps:List Cel),Cls wr B ps→(ps.length≠0→∀ ad,B=some ad→v.ownBlock≠some ad.block)→Cls w' B ps:=by
  intro B ps h5 h6;have h7:=h5.ext hnb;by_cases h0:ps.length=0
  ·exact⟨⟨h7.1.1,fun h=>absurd h (by omega)⟩,h7.2⟩
  ·exact⟨(h7.1.grown56 hg (Nat.le_refl _) (h6 h0)).more hg.size,h7.2⟩
 refine h v' w' ⟨svs ++ [.slice A c.cells.length k],?_,?_,?_⟩ ?_
 ·refine CelsV.snoc (c:=c) ⟨h1.1,fun i hi hi2=>?_⟩ (cl A c.cells hc fun _ ad e=>hA ad e);obtain⟨B,m,e,h5⟩:=h1.2 i hi hi2;refine⟨B,m,e,cl B _ h5 fun h0 ad e2=>?_⟩;subst e2;exact (hS _ (List.getElem_mem hi2) ad _ _ e h0).1
 ·rw[List.length_append,List.zip_append (by rw[h1.1]),List.flatMap_append];exact h3
 ·intro sv hsv ad n k2 e h0;rcases List.mem_append.1 hsv with hsv | hsv
  ·have:=hS sv hsv ad n k2 e h0;exact key ad this.1 this.2
  ·rw[List.mem_singleton.1 hsv] at e;injection e with e1 e2 e3
   have h5:=hA ad e1;refine key ad h5 ?_;obtain⟨b,o,e6,hbl,-⟩:=hc.at_ (k:=0) (by omega);rw[e1] at e6;injection e6 with e6
   rw[e6];exact hbl
 ·have hbr:∀ g,v.ownBlock=some g→base≤g:=by
   intro g hg2;rcases h2.2 with ⟨rfl,_⟩ | ⟨g',cap,cur,rfl,h4,h5,_⟩
   ·simp[Value.ownBlock] at hg2
   ·simp[Value.ownBlock] at hg2;omega
  exact⟨hg.os,hg.tape,hg.output,by have:=hg.size;simp at this;omega,fun j hj=>(hg.block j (by simp;omega) (fun e=>by have:=hbr j e.symm;omega)).trans (hnb.block j (by omega))⟩
def linesP (s:List UInt8):List (List UInt8):=if (splitC 10 s).getLast?=some [] then (splitC 10 s).dropLast else splitC 10 s
def cmdL (l:List UInt8):Option (Cmd × Int):=if wordsOf l=[] then none else match formOf (wordsOf l) with
 | none=>some (cmd0,15)
 | some f=>some (cmdP f (wordsOf l))
def runS:Nat→List Cmd→List (List UInt8)→List Cmd × Int × Int
 | i,a,[]=>(a,0,0)
 | i,a,l :: ls=>match cmdL l with
  | none=>runS (i+1) a ls
  | some (c,e)=>if e≠0 then ([],i+1,e) else runS (i+1) (a ++ [c]) ls
def scrP (s:List UInt8):List Cmd × Int × Int:=if 65536 < s.length then ([],0,6) else if 200 < (linesP s).length then ([],0,6) else runS 0 [] (linesP s)
theorem splitC_neS (c:UInt8)(l:List UInt8):splitC c l≠[]:=by
 cases l with
 | nil=>simp[splitC]
 | cons a l=>
  rw[splitC]
  split
  ·simp
  ·split <;> simp
theorem splitC_feed (c:UInt8):∀ a b:List UInt8,splitC c (a ++ c :: b)=splitC c a ++ splitC c b
 | [],b=>by
  show splitC c (c :: b)=[] :: splitC c b;rw[splitC,if_pos rfl]
 | x :: a,b=>by
  rw[List.cons_append,splitC,splitC,splitC_feed c a b];by_cases h:x=c
  ·rw[if_pos h,if_pos h];rfl
  ·rw[if_neg h,if_neg h];cases e:splitC c a with
   | nil=>exact absurd e (splitC_neS c a)
   | cons p ps=>rfl
theorem splitC_oneS (c:UInt8):∀ {p:List UInt8},c ∉ p→splitC c p=[p]
 | [],_=>rfl
 | x :: a,h=>by
  rw[splitC,if_neg (fun e=>h (by rw[e];exact List.mem_cons_self)),splitC_oneS c (fun hm=>h (List.mem_cons_of_mem _ hm))]
theorem splitC_pre (c:UInt8){p:List UInt8}(h:c ∉ p)(s:List UInt8):∃ q qs,splitC c s=q :: qs∧splitC c (p ++ s)=(p ++ q) :: qs:=by
 induction p with
 | nil=>
  cases e:splitC c s with
  | nil=>exact absurd e (splitC_neS c s)
  | cons q qs=>exact⟨q,qs,rfl,e⟩
 | cons x p ih=>
  obtain⟨q,qs,h1,h2⟩:=ih (fun hm=>h (List.mem_cons_of_mem _ hm));refine⟨q,qs,h1,?_⟩;rw[List.cons_append,splitC,if_neg (fun e=>h (by rw[e];exact List.mem_cons_self)),h2];rfl
def feeds (s:List UInt8):Nat:=s.countP (· == 10)
theorem split_feeds:∀ s:List UInt8,(splitC 10 s).length=feeds s+1
 | []=>rfl
 | a :: l=>by
  have ih:=split_feeds l;unfold feeds at ih ⊢;rw[splitC,List.countP_cons];by_cases h:a=10
  ·rw[if_pos h,List.length_cons,ih,h];rfl
  ·rw[if_neg h,if_neg (by simpa using h)];cases e:splitC 10 l with
   | nil=>exact absurd e (splitC_neS 10 l)
   | cons p ps=>rw[e] at ih;exact ih
theorem linesP_le (s:List UInt8):(linesP s).length≤(splitC 10 s).length:=by
 unfold linesP
 split
 ·rw[List.length_dropLast];omega
 ·exact Nat.le_refl _
theorem getLast?_app {α:Type} (a:List α){b:List α}(h:b≠[]):(a ++ b).getLast?=b.getLast?:=by
 rw[List.getLast?_append];cases e:b.getLast? with
 | none=>exact absurd (List.getLast?_eq_none_iff.1 e) h
 | some x=>rfl
theorem linesP_feed (a b:List UInt8):linesP (a ++ 10 :: b)=splitC 10 a ++ linesP b:=by
 unfold linesP;rw[splitC_feed,getLast?_app _ (splitC_neS 10 b)]
 split
 ·rw[List.dropLast_append_of_ne_nil (splitC_neS 10 b)]
 ·rfl
theorem linesP_nil:linesP []=[]:=rfl
theorem linesP_front (a:List UInt8):linesP (a ++ [10])=splitC 10 a:=by rw[linesP_feed,linesP_nil,List.append_nil]
theorem splitC_snoc (c:UInt8){a:UInt8}(h:a≠c):∀ t:List UInt8,∃ ps q,splitC c t=ps ++ [q]∧splitC c (t ++ [a])=ps ++ [q ++ [a]]
 | []=>⟨[],[],rfl,by rw[List.nil_append,splitC,if_neg h];rfl⟩
 | x :: t=>by
  obtain⟨ps,q,h1,h2⟩:=splitC_snoc c h t;rw[List.cons_append,splitC,splitC,h1,h2];by_cases hx:x=c
  ·rw[if_pos hx,if_pos hx];exact⟨[] :: ps,q,rfl,rfl⟩
  ·rw[if_neg hx,if_neg hx];cases ps with
   | nil=>exact⟨[],x :: q,rfl,rfl⟩
   | cons p ps=>exact⟨(x :: p) :: ps,q,rfl,rfl⟩
theorem linesP_no {t:List UInt8}{a:UInt8}(h:a≠10):linesP (t ++ [a])=splitC 10 (t ++ [a]):=by
 obtain⟨ps,q,h1,h2⟩:=splitC_snoc 10 h t;unfold linesP;rw[h2,List.getLast?_concat,if_neg];intro e;injection e with e
 simp at e
theorem cmdL_nil:cmdL []=none:=rfl
def resS:List (Cmd × Int)→List Cmd × Int
 | []=>([],0)
 | (c,e) :: l=>if e≠0 then ([],e) else if (resS l).2≠0 then ([],(resS l).2) else (c :: (resS l).1,0)
theorem runS_res:∀ (ls:List (List UInt8)) (i:Nat)(a:List Cmd),(runS i a ls).2.2=(resS (ls.filterMap cmdL)).2∧(runS i a ls).1=if (resS (ls.filterMap cmdL)).2≠0 then [] else a ++ (resS (ls.filterMap cmdL)).1
 | [],i,a=>by simp[runS,resS]
 | l :: ls,i,a=>by
  rw[runS,List.filterMap_cons];cases h:cmdL l with
  | none=>exact runS_res ls (i+1) a
  | some p=>
   obtain⟨c,e⟩:=p;dsimp only;rw[resS];by_cases he:e≠0
   ·rw[if_pos he,if_pos he];dsimp only;rw[if_pos he];exact⟨rfl,rfl⟩
   ·have ih:=runS_res ls (i+1) (a ++ [c]);rw[if_neg he,if_neg he,ih.1,ih.2];by_cases h2:(resS (ls.filterMap cmdL)).2≠0
    ·rw[if_pos h2,if_pos h2];dsimp only;rw[if_pos h2];exact⟨rfl,rfl⟩
    ·rw[if_neg h2,if_neg h2];dsimp only;rw[if_neg (by simp)];exact⟨by simpa using h2,by simp⟩
theorem lines_res (s:List UInt8):(linesP s).filterMap cmdL=(splitC 10 s).filterMap cmdL:=by
 unfold linesP
 split
 ·rename_i h;have hne:=splitC_neS 10 s;have h2:=List.dropLast_concat_getLast hne;have h3:(splitC 10 s).getLast hne=[]:=by
   rw[List.getLast?_eq_some_getLast hne] at h;injection h
  rw[h3] at h2
  conv=>rhs;rw[← h2]
  rw[List.filterMap_append];simp[cmdL_nil]
 ·rfl
theorem runS_none {l:List UInt8}(h:cmdL l=none)(ls:List (List UInt8)) (i:Nat)(a:List Cmd):runS i a (l :: ls)=runS (i+1) a ls:=by rw[runS,h]
theorem runS_bad {l:List UInt8}{c:Cmd}{e:Int}(h:cmdL l=some (c,e)) (he:e≠0)(ls:List (List UInt8)) (i:Nat)(a:List Cmd):runS i a (l :: ls)=([],(i:Int)+1,e):=by
 rw[runS,h];dsimp only;rw[if_pos he]
theorem runS_good {l:List UInt8}{c:Cmd}{e:Int}(h:cmdL l=some (c,e)) (he:¬ e≠0)(ls:List (List UInt8)) (i:Nat)(a:List Cmd):runS i a (l :: ls)=runS (i+1) (a ++ [c]) ls:=by
 rw[runS,h];dsimp only;rw[if_neg he]
theorem runS_shift:∀ (ls:List (List UInt8)) (i:Nat)(a:List Cmd),runS i a ls=if (runS 0 [] ls).2.2≠0 then ([],(i:Int)+(runS 0 [] ls).2.1,(runS 0 [] ls).2.2) else (a ++ (runS 0 [] ls).1,0,0)
 | [],i,a=>by simp[runS]
 | l :: ls,i,a=>by
  cases h:cmdL l with
  | none=>
   rw[runS_none h,runS_none h,runS_shift ls (i+1) a,runS_shift ls (0+1) []];by_cases h2:(runS 0 [] ls).2.2≠0
   ·rw[if_pos h2,if_pos h2];dsimp only;rw[if_pos h2];simp only[Prod.mk.injEq,true_and,and_true];omega
   ·rw[if_neg h2,if_neg h2];simp
  | some p=>
   obtain⟨c,e⟩:=p;by_cases he:e≠0
   ·rw[runS_bad h he,runS_bad h he,if_pos he];simp
   ·rw[runS_good h he,runS_good h he,runS_shift ls (i+1) (a ++ [c]),runS_shift ls (0+1) ([] ++ [c])];by_cases h2:(runS 0 [] ls).2.2≠0
    ·rw[if_pos h2,if_pos h2];dsimp only;rw[if_pos h2];simp only[Prod.mk.injEq,true_and,and_true];omega
    ·rw[if_neg h2,if_neg h2];simp
theorem runS_app:∀ (ls ms:List (List UInt8)) (i:Nat)(a:List Cmd),runS i a (ls ++ ms)=if (runS i a ls).2.2≠0 then runS i a ls else runS (i+ls.length) (runS i a ls).1 ms
 | [],ms,i,a=>by simp[runS]
 | l :: ls,ms,i,a=>by
  rw[List.cons_append];cases h:cmdL l with
  | none=>
   rw[runS_none h,runS_none h,runS_app ls ms (i+1) a,List.length_cons,show i+1+ls.length=i+(ls.length+1) by omega]
  | some p=>
   obtain⟨c,e⟩:=p;by_cases he:e≠0
   ·rw[runS_bad h he,runS_bad h he,if_pos he]
   ·rw[runS_good h he,runS_good h he,runS_app ls ms (i+1) (a ++ [c]),List.length_cons,show i+1+ls.length=i+(ls.length+1) by omega]
theorem runS_err (ls:List (List UInt8)) (i:Nat)(a:List Cmd)(h:(runS i a ls).2.2≠0):(runS i a ls).1=[]:=by
 have h2:=runS_res ls i a;rw[h2.2,if_pos (by rw[← h2.1];exact h)]
theorem parts_law {a b:List UInt8}(ha:a.length≤1000)(hb:b.length≤1000)(ha9:feeds a≤90)(hb9:feeds b≤90) :
  ((scrP (a ++ [10])).2.2≠0→scrP (a ++ [10] ++ b)=([],(scrP (a ++ [10])).2.1,(scrP (a ++ [10])).2.2))∧
  ((scrP (a ++ [10])).2.2=0→(scrP b).2.2≠0→scrP (a ++ [10] ++ b)=([],(feeds (a ++ [10]):Int)+(scrP b).2.1,(scrP b).2.2))∧
  ((scrP (a ++ [10])).2.2=0→(scrP b).2.2=0→scrP (a ++ [10] ++ b)=((scrP (a ++ [10])).1 ++ (scrP b).1,0,0)):=by
 have e0:a ++ [10] ++ b=a ++ 10 :: b:=by simp
 have lb:=linesP_le b;rw[split_feeds] at lb;have la:=split_feeds a;have p1:scrP (a ++ [10])=runS 0 [] (splitC 10 a):=by
  unfold scrP;rw[if_neg (by simp;omega),linesP_front,if_neg (by omega)]
 have p2:scrP b=runS 0 [] (linesP b):=by
  unfold scrP;rw[if_neg (by omega),if_neg (by omega)]
 have p3:scrP (a ++ [10] ++ b)=runS 0 [] (splitC 10 a ++ linesP b):=by
  unfold scrP;rw[if_neg (by simp;omega),e0,linesP_feed,if_neg (by rw[List.length_append];omega)]
 have hf:feeds (a ++ [10])=(splitC 10 a).length:=by rw[la];unfold feeds;rw[List.countP_append];rfl
 rw[p1,p2,p3,runS_app,hf];refine⟨fun h=>?_,fun h h2=>?_,fun h h2=>?_⟩
 ·rw[if_pos h];exact Prod.ext (runS_err _ _ _ h) (Prod.ext rfl rfl)
 ·rw[if_neg (by simpa using h),runS_shift,if_pos h2,Nat.zero_add]
 ·rw[if_neg (by simpa using h),runS_shift,if_neg (by simpa using h2)]
theorem wordsTo_app_hash:∀ (ps:List (List UInt8)) (w:List UInt8)(qs:List (List UInt8)),hashB w=true→wordsTo (ps ++ w :: qs)=wordsTo ps
 | [],w,qs,h=>by
  show (if hashB w then [] else if w=[] then wordsTo qs else w :: wordsTo qs)=[]
  rw[if_pos h]
 | p :: ps,w,qs,h=>by
  rw[List.cons_append,wordsTo,wordsTo,wordsTo_app_hash ps w qs h]
theorem words_hash (a y:List UInt8):wordsOf (a ++ 32 :: 35 :: y)=wordsOf a:=by
 unfold wordsOf;rw[splitC_feed];obtain⟨q,qs,-,h2⟩:=splitC_pre 32 (p:=[35]) (by decide) y;rw[show (35 :: y)=[35] ++ y from rfl,h2];exact wordsTo_app_hash _ _ _ rfl
theorem wordsTo_empty:∀ (ps qs:List (List UInt8)),wordsTo (ps ++ [] :: qs)=wordsTo (ps ++ qs)
 | [],qs=>by rw[List.nil_append,wordsTo];rfl
 | p :: ps,qs=>by
  rw[List.cons_append,List.cons_append,wordsTo,wordsTo,wordsTo_empty ps qs]
theorem words_two (a x:List UInt8):wordsOf (a ++ 32 :: 32 :: x)=wordsOf (a ++ 32 :: x):=by
 unfold wordsOf;rw[splitC_feed,splitC_feed,show (32 :: x:List UInt8)=[] ++ 32 :: x from rfl,splitC_feed];exact wordsTo_empty _ _
theorem words_lead (x:List UInt8):wordsOf (32 :: x)=wordsOf x:=by
 unfold wordsOf;rw[show (32 :: x:List UInt8)=[] ++ 32 :: x from rfl,splitC_feed];exact wordsTo_empty [] _
theorem cmdL_words {l m:List UInt8}(h:wordsOf l=wordsOf m):cmdL l=cmdL m:=by unfold cmdL;rw[h]
def exC (c:UInt8):List UInt8:=if c=10 then [32,35,32,120,10,32,32,10,32] else if c=32 then [32,32,32] else [c]
theorem spaces_res:∀ (s p p0:List UInt8),10 ∉ p→10 ∉ p0→(∀ x,wordsOf (p ++ x)=wordsOf (p0 ++ x))→(splitC 10 (p ++ (s.flatMap exC ++ [32,32,35]))).filterMap cmdL=(splitC 10 (p0 ++ s)).filterMap cmdL
 | [],p,p0,h,h0,hE=>by
  have e1:10 ∉ p ++ [32,32,35]:=by
   rw[List.mem_append];rintro (h1 | h1)
   ·exact h h1
   ·revert h1;decide
  have e2:wordsOf (p ++ [32,32,35])=wordsOf p0:=by
   have:=words_hash (p ++ [32]) [];rw[List.append_assoc] at this;have h3:p ++ [32,32,35]=p ++ ([32] ++ 32 :: 35 :: []):=rfl;rw[h3,this];have h4:=words_hash p [];have h5:=hE [32];rw[h5];unfold wordsOf;rw[splitC_feed];have:=wordsTo_empty (splitC 32 p0) [];rw[List.append_nil] at this;exact this
  rw[List.flatMap_nil,List.nil_append,splitC_oneS 10 e1,List.append_nil,splitC_oneS 10 h0,List.filterMap_cons,List.filterMap_cons,cmdL_words e2]
 | c :: s,p,p0,h,h0,hE=>by
  rw[List.flatMap_cons,List.append_assoc];by_cases h1:c=10
  ·subst h1;have ih:=spaces_res s [32] [] (by decide) (by decide) (fun x=>words_lead x);have e1:exC 10=[32,35,32,120] ++ 10 :: ([32,32] ++ 10 :: [32]):=rfl;have n1:10 ∉ p ++ [32,35,32,120]:=by
    rw[List.mem_append];rintro (h1 | h1)
    ·exact h h1
    ·revert h1;decide
   have e2:p ++ (exC 10 ++ (s.flatMap exC ++ [32,32,35]))=(p ++ [32,35,32,120]) ++ 10 :: ([32,32] ++ 10 :: ([32] ++ (s.flatMap exC ++ [32,32,35]))):=by rw[e1];simp
   rw[e2,splitC_feed,splitC_feed,splitC_oneS 10 n1,splitC_oneS 10 (by decide:(10:UInt8) ∉ [32,32]),splitC_feed,splitC_oneS 10 h0];have w1:wordsOf (p ++ [32,35,32,120])=wordsOf p0:=by rw[hE];exact words_hash p0 _
   have w2:cmdL [32,32]=none:=rfl;simp only[List.filterMap_append,List.filterMap_cons,List.filterMap_nil,w2,cmdL_words w1,List.nil_append] at ih ⊢;rw[ih]
  ·have hne:10 ∉ p0 ++ [c]:=by
    rw[List.mem_append];rintro (h2 | h2)
    ·exact h0 h2
    ·exact h1 (List.mem_singleton.1 h2).symm
   by_cases h2:c=32
   ·subst h2;have e1:exC 32=[32,32,32]:=rfl;have ih:=spaces_res s (p ++ [32,32,32]) (p0 ++ [32]) (by
     rw[List.mem_append];rintro (h3 | h3)
     ·exact h h3
     ·revert h3;decide) hne (fun x=>by
     rw[List.append_assoc,List.append_assoc];show wordsOf (p ++ 32 :: 32 :: 32 :: x)=wordsOf (p0 ++ 32 :: x);rw[words_two,words_two,hE])
    rw[List.append_assoc,List.append_assoc] at ih;rw[e1];exact ih
   ·have e1:exC c=[c]:=by unfold exC;rw[if_neg h1,if_neg h2]
    have ih:=spaces_res s (p ++ [c]) (p0 ++ [c]) (by
     rw[List.mem_append];rintro (h3 | h3)
     ·exact h h3
     ·exact h1 (List.mem_singleton.1 h3).symm) hne (fun x=>by
     rw[List.append_assoc,List.append_assoc];exact hE _)
    rw[List.append_assoc,List.append_assoc] at ih;rw[e1];exact ih
theorem feeds_ex:∀ s:List UInt8,feeds (s.flatMap exC)=2*feeds s
 | []=>rfl
 | c :: s=>by
  have ih:=feeds_ex s;unfold feeds at ih ⊢;rw[List.flatMap_cons,List.countP_append,ih,List.countP_cons];unfold exC;by_cases h:c=10
  ·subst h;simp;omega
  ·rw[if_neg h];by_cases h2:c=32
   ·subst h2;simp
   ·rw[if_neg h2];simp[h]
theorem len_ex:∀ s:List UInt8,(s.flatMap exC).length≤9*s.length
 | []=>Nat.le_refl _
 | c :: s=>by
  have ih:=len_ex s;rw[List.flatMap_cons,List.length_append,List.length_cons];have:(exC c).length≤9:=by
   unfold exC
   split
   ·decide
   ·split
    ·decide
    ·exact (by simp:[c].length≤9)
  omega
theorem spaces_law {s:List UInt8}(h:s.length≤500)(h9:feeds s≤90) :
  (scrP s).2.2=(scrP ([32,32] ++ s.flatMap exC ++ [32,32,35])).2.2∧(scrP s).1=(scrP ([32,32] ++ s.flatMap exC ++ [32,32,35])).1:=by
 have hr:=spaces_res s [32,32] [] (by decide) (by decide) (fun x=>by
  show wordsOf (32 :: 32 :: x)=wordsOf x;rw[words_lead,words_lead])
 have le:=len_ex s;have l1:=linesP_le s;rw[split_feeds] at l1;have l2:=linesP_le ([32,32] ++ s.flatMap exC ++ [32,32,35]);rw[split_feeds] at l2;have l3:feeds ([32,32] ++ s.flatMap exC ++ [32,32,35])=2*feeds s:=by
  rw[← feeds_ex];unfold feeds;rw[List.countP_append,List.countP_append]
  simp
 have p1:scrP s=runS 0 [] (linesP s):=by
  unfold scrP;rw[if_neg (by omega),if_neg (by omega)]
 have p2:scrP ([32,32] ++ s.flatMap exC ++ [32,32,35])=runS 0 [] (linesP ([32,32] ++ s.flatMap exC ++ [32,32,35])):=by
  unfold scrP;rw[if_neg (by simp only[List.length_append,List.length_cons,List.length_nil];omega),if_neg (by omega)]
 have r1:=runS_res (linesP s) 0 [];have r2:=runS_res (linesP ([32,32] ++ s.flatMap exC ++ [32,32,35])) 0 [];rw[lines_res] at r1 r2;rw[List.append_assoc] at r2 p2;rw[hr,List.nil_append] at r2;rw[List.append_assoc,p1,p2,r1.1,r1.2,r2.1,r2.2];exact⟨rfl,rfl⟩
theorem text_len56 {ps:List Cel}{rule:List UInt8}(h:(textL ps rule).2=0):(textL ps rule).1.length≤65536:=by
 unfold textL at *;by_cases h1:rightC ps=false
 ·rw[if_pos h1] at h;cases h
 rw[if_neg h1] at h ⊢;by_cases h2:nameB rule=false
 ·rw[if_pos h2] at h;cases h
 rw[if_neg h2] at h ⊢;by_cases h3:1048577 < (boxC ps).1.w∨1048577 < (boxC ps).1.h
 ·rw[if_pos h3] at h;cases h
 rw[if_neg h3] at h ⊢;by_cases h4:65536 < (fullT ps rule).length
 ·rw[if_pos h4] at h;cases h
 rw[if_neg h4];exact Nat.not_lt.1 h4
theorem rgt_num:∀ (ss:List Slot)(c r r':Cmd),rgtTo ss c r=some r'→∀ s ∈ ss,s.k=4→s.lo≤c.get s.fld∧c.get s.fld≤s.hi
 | [],c,r,r',_,s,hs,_=>by cases hs
 | t :: ss,c,r,r',h,s,hs,h4=>by
  rw[rgtTo] at h;by_cases k1:t.k=1∨t.k=2
  ·rw[if_pos k1] at h;by_cases hb:badName t c.name=true
   ·rw[if_pos hb] at h;cases h
   ·rw[if_neg hb] at h;rcases List.mem_cons.1 hs with rfl | hs
    ·omega
    ·exact rgt_num ss c _ r' h s hs h4
  ·rw[if_neg k1] at h;by_cases k3:t.k=3
   ·rw[if_pos k3] at h;by_cases hb:homedB c.cells=true
    ·rw[if_pos hb] at h;rcases List.mem_cons.1 hs with rfl | hs
     ·omega
     ·exact rgt_num ss c _ r' h s hs h4
    ·rw[if_neg hb] at h;cases h
   ·rw[if_neg k3] at h;by_cases k4:t.k=4
    ·rw[if_pos k4] at h;by_cases hb:c.get t.fld < t.lo∨t.hi < c.get t.fld
     ·rw[if_pos hb] at h;cases h
     ·rw[if_neg hb] at h;rcases List.mem_cons.1 hs with rfl | hs
      ·exact⟨by omega,by omega⟩
      ·exact rgt_num ss c _ r' h s hs h4
    ·rw[if_neg k4] at h;rcases List.mem_cons.1 hs with rfl | hs
     ·exact absurd h4 k4
     ·exact rgt_num ss c _ r' h s hs h4
def slotIn (s:Slot):Bool:=decide (-1048576≤s.lo) && decide (s.hi≤1048576) && decide (s.text.length≤20)
theorem forms_in:(formsP.all fun f=>f.slots.all slotIn && decide (f.word.length≤20) && decide (f.slots.length≤10))=true:=by decide
theorem form_in {f:Form}(h:f ∈ formsP):(∀ s ∈ f.slots,-1048576≤s.lo∧s.hi≤1048576∧s.text.length≤20)∧f.word.length≤20∧f.slots.length≤10:=by
 have h2:=List.all_eq_true.1 forms_in f h;rw[Bool.and_eq_true,Bool.and_eq_true,decide_eq_true_eq,decide_eq_true_eq] at h2;refine⟨fun s hs=>?_,h2.1.2,h2.2⟩;have h3:=List.all_eq_true.1 h2.1.1 s hs;unfold slotIn at h3;rw[Bool.and_eq_true,Bool.and_eq_true,decide_eq_true_eq,decide_eq_true_eq,decide_eq_true_eq] at h3;exact⟨h3.1.1,h3.1.2,h3.2⟩
theorem kindF_mem {k:Int}{f:Form}(h:kindF k=some f):f ∈ formsP∧f.kind=k:=⟨List.mem_of_find?_eq_some h,by simpa using List.find?_some h⟩
theorem joinW_len:∀ (ws:List (List UInt8)) (m:Nat),(∀ w ∈ ws,w.length≤m)→(joinW ws).length≤ws.length*(m+1)
 | [],m,_=>Nat.zero_le _
 | w :: ws,m,h=>by
  have key:∀ (l:List (List UInt8)) (s:List UInt8),(∀ x ∈ l,x.length≤m)→(l.foldl (fun s x=>s ++ ([32] ++ x)) s).length≤s.length+l.length*(m+1):=by
   intro l;induction l with
   | nil=>intro s _;simp
   | cons x l ih=>
    intro s hx;rw[List.foldl_cons];have h1:=ih (s ++ ([32] ++ x)) (fun y hy=>hx y (List.mem_cons_of_mem _ hy));have h2:=hx x List.mem_cons_self;rw[List.length_append,List.length_append] at h1;rw[List.length_cons,Nat.succ_mul];have h3:([32]:List UInt8).length=1:=rfl;omega
  have h1:=key ws w (fun x hx=>h x (List.mem_cons_of_mem _ hx));have h2:=h w List.mem_cons_self;show (ws.foldl _ w).length≤_;rw[List.length_cons,Nat.succ_mul];omega
theorem runW_len (t:List UInt8):(runW t).length≤t.length:=by
 unfold runW afterLine;refine Nat.le_trans (List.length_filter_le _ _) ?_;rw[List.length_drop];omega
theorem line_words {c:Cmd}(hn:c.name.length≤65536):∀ (ss:List Slot)(a:List (List UInt8)),(∀ s ∈ ss,s.k=4→-9223372036854775808≤c.get s.fld∧c.get s.fld≤9223372036854775807)→(∀ s ∈ ss,s.text.length≤65536)→(∀ w ∈ a,w.length≤65536)→(∀ w ∈ (lineTo ss c a).1,w.length≤65536)∧(lineTo ss c a).1.length≤a.length+ss.length
 | [],a,_,_,ha=>⟨ha,Nat.le_refl _⟩
 | s :: ss,a,hg,hs,ha=>by
  have hg2:=fun x hx=>hg x (List.mem_cons_of_mem s hx);have h2:=fun x hx=>hs x (List.mem_cons_of_mem s hx);have h1:=hs s List.mem_cons_self;have step:∀ w:List UInt8,w.length≤65536→(∀ x ∈ (lineTo ss c (a ++ [w])).1,x.length≤65536)∧(lineTo ss c (a ++ [w])).1.length≤a.length+(s :: ss).length:=by
   intro w hw;have:=line_words hn ss (a ++ [w]) hg2 h2 (fun x hx=>by
    rcases List.mem_append.1 hx with hx | hx
    ·exact ha x hx
    ·rw[List.mem_singleton.1 hx];exact hw)
   refine⟨this.1,?_⟩;have h3:=this.2;rw[List.length_append] at h3;rw[List.length_cons];have h4:[w].length=1:=rfl;omega
  rw[lineTo]
  split
  ·exact step _ h1
  ·split
   ·exact step _ hn
   ·split
    ·split
     ·exact⟨fun w hw=>by simp at hw,by simp⟩
     ·rename_i he;exact step _ (Nat.le_trans (runW_len _) (text_len56 (by simpa using he)))
    ·split
     ·rename_i h4;have hg3:=hg s List.mem_cons_self h4;exact step _ (Nat.le_trans (Lib.itoa_length_le _ hg3.1 hg3.2) (by decide))
     ·have:=line_words hn ss a hg2 h2 ha;exact⟨this.1,by have:=this.2;rw[List.length_cons];omega⟩
theorem line_len {c:Cmd}(hn:c.name.length≤65536):(lineP c).1.length≤1000000:=by
 unfold lineP;by_cases hr:rightP c=false
 ·rw[if_pos hr];simp
 ·rw[if_neg hr];cases h:kindF c.kind with
  | none=>simp
  | some f=>
   dsimp only;have hf:=form_in (kindF_mem h).1;have hg:∀ s ∈ f.slots,s.k=4→-9223372036854775808≤c.get s.fld∧c.get s.fld≤9223372036854775807:=by
    intro s hs h4;unfold rightP at hr;rw[h] at hr;dsimp only at hr;cases hr2:rgtTo f.slots c { c with kind:=0 } with
    | none=>rw[hr2] at hr;exact absurd rfl hr
    | some r'=>
     have h1:=rgt_num _ _ _ _ hr2 s hs h4;have h2:=hf.1 s hs;omega
   have hw:=line_words hn f.slots [f.word] hg (fun s hs=>by have:=(hf.1 s hs).2.2;omega) (fun w hw=>by rw[List.mem_singleton.1 hw];have:=hf.2.1;omega)
   split
   ·simp
   ·have h1:=joinW_len (lineTo f.slots c [f.word]).1 65536 hw.1;have h2:=hw.2;have h3:[f.word].length=1:=rfl;have h4:=hf.2.2;have h5:(lineTo f.slots c [f.word]).1.length*(65536+1)≤11*(65536+1):=Nat.mul_le_mul_right _ (by omega);show (joinW _).length≤_;omega
def errT:List Cmd→Int
 | []=>0
 | c :: l=>if (lineP c).2≠0 then (lineP c).2 else errT l
def catT:List Cmd→List UInt8
 | []=>[]
 | c :: l=>(lineP c).1 ++ [10] ++ catT l
def textP (l:List Cmd):List UInt8 × Int:=if 200 < l.length then ([],6) else if errT l≠0 then ([],errT l) else if 65536 < (catT l).length then ([],6) else (catT l,0)
theorem catT_app:∀ a b:List Cmd,catT (a ++ b)=catT a ++ catT b
 | [],b=>rfl
 | c :: a,b=>by rw[List.cons_append,catT,catT,catT_app a b];simp only[List.append_assoc]
theorem catT_snoc {l:List Cmd}{k:Nat}(h:k < l.length):catT (l.take (k+1))=catT (l.take k) ++ ((lineP l[k]).1 ++ [10]):=by
 rw[List.take_succ_eq_append_getElem h,catT_app];show _ ++ ((lineP l[k]).1 ++ [10] ++ [])=_;rw[List.append_nil]
theorem errT_drop {l:List Cmd}{k:Nat}(h:k < l.length):errT (l.drop k)=if (lineP l[k]).2≠0 then (lineP l[k]).2 else errT (l.drop (k+1)):=by
 rw[List.drop_eq_getElem_cons h];rfl
theorem catT_mono {l:List Cmd}{k:Nat}(h:k≤l.length):(catT (l.take k)).length≤(catT l).length:=by
 conv=>rhs;rw[← List.take_append_drop k l]
 rw[catT_app,List.length_append];omega
end Go.Proofs.YtcfelnhmifkelaaGreatDoor
namespace Go.Proofs.YtcfelnhmifkelaaGreatDoor
open Lib(hid)
open Go.RowKit
set_option maxRecDepth 100000
set_option linter.unusedVariables false
set_option linter.unusedSimpArgs false
theorem Tryz.infoCel6:(Tryz.prog.info? 114).map (fun i=>(i.zero,i.size,i.bytes))=some (some (.agg #[.int .i64 0,.int .i64 0,.int .i64 0]),3,24):=by kernel_rfl
def RetHm (A:Option Addr)(ps:List Cel)(w:World)(e:Ending)(w':World):Prop:=∃ A' c,e=.returned (.slice A' (homeC ps).length c)∧Cls w' A' (homeC ps)∧(A'=A∨NewA w.heap.size A')∧Below w.heap.size w w'
theorem home_snoc {ps:List Cel}(x y:Int){k:Nat}(h:k < ps.length):(ps.take (k+1)).map (mvC x y)=(ps.take k).map (mvC x y) ++ [⟨ps[k].x - x,ps[k].y - y,ps[k].s⟩]:=by
 rw[List.take_succ_eq_append_getElem h,List.map_append];rfl
theorem OwnC.low56 {e:TypeId}{w:World}{b b':Nat}{v:Value}{ps:List Cel}(h:OwnC e w b v ps)(hb:b'≤b):OwnC e w b' v ps:=by
 refine⟨h.1,?_⟩;rcases h.2 with h2 | ⟨g,cap,cur,h3,h4,h5⟩
 ·exact .inl h2
 ·exact .inr ⟨g,cap,cur,h3,Nat.le_trans hb h4,h5⟩
set_option maxHeartbeats 8000000 in
theorem home_any (A:Option Addr)(c:Nat)(ps:List Cel)(w:World)(ha:Cls w A ps) :
  Calls Tryz.prog 68 #[.slice A ps.length c] w (RetHm A ps w):=by
 have hB:=hid (box_any A c ps w ha);have HR:=hid (fun W (hW:Below w.heap.size w W)=>right_any A c ps W (ha.ext hW));have h2:=box_two ps;cases k2:(boxC ps).2 with
 | false=>
  have E:Hid (homeC ps=ps):=hid (by unfold homeC;rw[k2,if_neg Bool.false_ne_true]);have HA:=hid ha;rw[k2] at hB;clear ha h2 k2 HR;go_enter Tryz.func68,Tryz.ntmps68;go_wp2_with (go_at_call 44;refine hB.out.mono ?_;rintro e w1 ⟨rfl,hb1⟩;refine Hid.out ?_);refine hid ?_;have HB1:=hid hb1;clear hb1 hB;unfold bxV;go_wp2;go_ret;unfold RetHm;rw[E.out];have hb:Below w.heap.size w (w1.alloc (.cells #[.int .i64 (boxC ps).1.x,.int .i64 (boxC ps).1.y,.int .i64 (boxC ps).1.w,.int .i64 (boxC ps).1.h] 73)):=HB1.out.alloc HB1.out.size _;exact⟨A,c,rfl,HA.out.ext hb,.inl rfl,hb⟩
 | true=>
  have hr:ps≠[]∧rightC ps=true:=by
   rw[k2] at h2;have:=h2.symm;rw[Bool.and_eq_true,decide_eq_true_eq] at this;exact this
  have hbd:=right_bd hr.2;have hxy:=box_xy k2;have hlx:=lo_bd (·.x) hr.1 (fun c hc=>(hbd c hc).1) ps.length;have hly:=lo_bd (·.y) hr.1 (fun c hc=>(hbd c hc).2.1) ps.length;have E:Hid (homeC ps=ps.map (mvC (boxC ps).1.x (boxC ps).1.y)):=hid (by unfold homeC;rw[k2,if_pos rfl]);have hL:ps.length≤5000:=by
   have:=hr.2;unfold rightC at this;rw[Bool.and_eq_true,decide_eq_true_eq] at this;exact this.1
  rw[hr.2] at HR;rw[k2] at hB;rw[← hxy.1] at hlx;rw[← hxy.2] at hly;obtain⟨b,hb⟩:∃ b,b=(boxC ps).1:=⟨_,rfl⟩
  rw[← hb] at hB E hlx hly;have HBD:=hid hbd;have HLX:=hid hlx;have HLY:=hid hly;have HL:=hid hL;have HA:=hid ha;clear ha h2 k2 hr hbd hxy hlx hly hL hb;obtain⟨bx,bY,bw,bh⟩:=b;unfold bxV at hB;dsimp only at hB E HLX HLY;go_enter Tryz.func68,Tryz.ntmps68;go_wp2_with (go_at_call 44;refine hB.out.mono ?_;rintro e w1 ⟨rfl,hb1⟩;refine Hid.out ?_);refine hid ?_;obtain⟨w2,hw2⟩:∃ W,W=w1.alloc (.cells #[.int .i64 bx,.int .i64 bY,.int .i64 bw,.int .i64 bh] 73):=⟨_,rfl⟩
  obtain⟨p2,hp2⟩:∃ p,p=w1.heap.size:=⟨_,rfl⟩
  have hk2:Blk w2 p2 73 #[.int .i64 bx,.int .i64 bY,.int .i64 bw,.int .i64 bh]:=by rw[hw2,hp2];exact Blk.new _ _ _
  have HK2:=hid hk2;have HB2:Hid (Below w.heap.size w w2):=hid (by rw[hw2];exact hb1.alloc hb1.size _);have HW2:=hid hw2;have HP2:=hid hp2;have hR2:=HR.out w2 HB2.out;clear hb1 hB hw2 hp2 hk2 HR;go_upto_region 2 with fail
  rw[← HW2.out,← HP2.out];clear HW2 HP2;go_wp2_with (go_at_call 45;refine hR2.mono ?_;rintro e w3 ⟨rfl,hb3⟩;refine Hid.out ?_);refine hid ?_;have HB3:=hid (HB2.out.trans (hb3.mono HB2.out.size));have HK3:=hid (HK2.out.below hb3 HK2.out.lt);clear hR2 hb3 HK2 HB2;obtain⟨i0,hi0,hz0,hz1,hz2⟩:=info_parts Tryz.infoCel6;go_wp2_with (at_make;refine wpList_make_own _ rfl _ _ 30 rfl w3.heap.size 114 i0 _ 3 Tryz.underlying30 hi0 hz0 hz1 .i64 .i64 ps.length ps.length rfl rfl rfl (by rw[hz2];have:=HL.out;omega) (by unfold maxLen;have:=HL.out;omega) (Nat.le_refl _) ?_);intro w4 ho4 hg4;have HB34:Hid (Below w3.heap.size w3 w4):=hid ⟨hg4.os,hg4.tape,hg4.output,hg4.size,fun k hk=>hg4.block k hk (by simp)⟩;have HO4:Hid (OwnC 114 w4 w3.heap.size (.slice (some ⟨w3.heap.size,0,none⟩) 0 ps.length) []):=hid ho4;clear ho4 hg4 hi0 hz0 hz1 hz2 i0;go_wp2;go_loopw [5,26] (fun v i wr=>∃ (k:Nat),k≤ps.length∧i=.int .i64 k∧Hid (Below w3.heap.size w3 wr)∧Hid (OwnC 114 wr w3.heap.size v ((ps.take k).map (mvC bx bY)))) (fun _ i _=>ps.length - (intOf i).toNat)
  case atStart=>exact⟨0,Nat.zero_le _,rfl,HB34,HO4⟩
  case round=>
   clear HO4 HB34;obtain⟨k,hk,rfl,HB,HO⟩:=hrel;by_cases hlt:k < ps.length
   ·have HBw:=hid (HB3.out.trans (HB.out.mono HB3.out.size));obtain⟨b1,o1,e1,hbl,hc0,hc1,hc2⟩:=(HA.out.ext HBw.out).at_ hlt;subst e1;have HSN:=hid (home_snoc bx bY hlt);have hq:=HBD.out _ (List.getElem_mem hlt);obtain⟨q,hqe⟩:∃ q,q=ps[k]:=⟨_,rfl⟩
    rw[← hqe] at hc0 hc1 hc2 HSN hq;obtain⟨qx,qy,qs⟩:=q;dsimp only at hc0 hc1 hc2 HSN hq;clear hqe;have hcn:((ps.take k).map (mvC bx bY)).length < 4294967296:=by have:=HL.out;rw[List.length_map];have h2:=List.length_take_le k ps;omega
    obtain⟨acc,hacc⟩:∃ l,l=(ps.take k).map (mvC bx bY):=⟨_,rfl⟩
    rw[← hacc] at HSN HO hcn;clear hacc;have q0:=Blk.new wr 114 #[.int .i64 qx,.int .i64 qy,.int .i64 qs];have hnb:=below_new wr (.cells #[.int .i64 qx,.int .i64 qy,.int .i64 qs] 114);have hp1:=(HK3.out.below HB.out HK3.out.lt)
    have hp1:=hp1.below hnb hp1.lt;obtain⟨wa,hwa⟩:∃ wa,wa=wr.alloc (.cells #[.int .i64 qx,.int .i64 qy,.int .i64 qs] 114):=⟨_,rfl⟩
    obtain⟨pa,hpa⟩:∃ pa,pa=wr.heap.size:=⟨_,rfl⟩
    rw[← hwa] at q0 hnb hp1;rw[← hpa] at q0;have HBa:=hid (HB.out.trans (hnb.mono HB.out.size));have HOa:=hid (HO.out.ext hnb);have HWA:=hid hwa;have HPA:=hid hpa;have hw1:wrap64 ((k:Int)+1)=(k:Int)+1:=by have:=HL.out;unfold wrap64;omega
    have hw2:wrap64 (qx - bx)=qx - bx:=by have:=HLX.out;unfold wrap64;omega
    have hw3:wrap64 (qy - bY)=qy - bY:=by have:=HLY.out;unfold wrap64;omega
    have hbs:w3.heap.size≤wa.heap.size:=HBa.out.size;have x0:=q0.cell 0;have x1:=q0.cell 1;have x2:=q0.cell 2;have y0:=hp1.cell 0;have y1:=hp1.cell 1;have hown2:=HOa.out;clear hwa hpa hnb hp1 q0 HO HB hq HBw;go_upto_region 8 with fail
    rw[← HWA.out,← HPA.out];go_wp2_with (at_builtin;refine wpList_pushC rfl _ _ _ rfl w3.heap.size 114 Tryz.underlying30 Tryz.infoCel6 _ _ rfl hown2 _ _ _ rfl hcn hbs ?_);intro v' w9 ho9 hb9;have HO9:=hid ho9;clear hown2 ho9;rw[← HSN.out] at HO9;have HB9:=hid (HBa.out.trans hb9);clear hb9;go_wp2;go_roundw
    case rel=>exact⟨k+1,hlt,(by rw[hw1];rfl),HB9,HO9⟩
    case measure=>rw[hw1];exact meas_step5b hlt
   ·have dk:decide ((k:Int) < ps.length)=false:=decide_eq_false (by omega);have ek:k=ps.length:=by omega
    have HO1:=HO.out;rw[ek,List.take_length,← E.out] at HO1;obtain⟨A',c',hv,hcl,hnw⟩:=(HO1.low56 HB3.out.size).cls;have HCL:=hid hcl;have HNW:=hid hnw;subst hv;clear HO1 HO hcl hnw;go_wp2;go_ret;exact⟨A',c',rfl,HCL.out,.inr HNW.out,HB3.out.trans (HB.out.mono HB3.out.size)⟩
theorem wpList_pushCb {P:Program}{wr:World}{ops:Array Oper}{rest:List Oper}{o:Oper}{a:Act}{Q:Exit→Act→World→Prop}(hgd:o.guard=none)(s x:Operand)(t:TypeId)
  (ho:o.op=.call { callee:=.builtin .append,args:=#[s,x],argTypes:=#[t,t] })
  (base:Nat) (e:TypeId) (ht:P.underlying t=some (.slice e)) (hi:(P.info? e).map (fun i=>(i.zero,i.size,i.bytes))=some (some (.agg #[.int .i64 0,.int .i64 0,.int .i64 0]),3,24))
  (v:Value) (ps:List Cel) (hs:a.eval s=v) (hown:OwnC e wr base v ps)
  (p q r:Int) {g:Nat} (hb:Blk wr g e #[.int .i64 p,.int .i64 q,.int .i64 r]) (hx:a.eval x=.slice (some ⟨g,0,none⟩) 1 1)
  (hn:ps.length < 4294967296) (hbase:base≤wr.heap.size)
  (h:∀ v' w',OwnC e w' base v' (ps ++ [⟨p,q,r⟩])→Below base wr w'→wpList P ops Q rest (a.put o.dst v') w') :
  wpList P ops Q (o :: rest) a wr:=by
 obtain⟨i0,hi0,hz0,hz1,hz2⟩:=info_parts hi;have hrd:Reads wr (g+1) 3 (some ⟨g,0,none⟩) 1 [.int .i64 p,.int .i64 q,.int .i64 r]:=by
  refine⟨rfl,fun _=>⟨_,rfl,by simp,fun j u hu=>?_⟩⟩;rw[addr_add,Nat.zero_add,hb.cell j,← hu]
  simp
 refine wpList_append_any _ hgd s x t ho base e i0 _ 3 24 ht hi0 hz0 hz1 hz2 rfl (by decide) v ps.length _ hs hown _ _ 1 1 _ hx hrd (by simp[Value.oneCell']) (by unfold maxLen;omega) (by omega) hbase ?_;intro v' w' h3 hg hv;refine h v' w' (by unfold OwnC;rw[List.length_append,List.flatMap_append];exact h3) ?_;have hbr:∀ g,v.ownBlock=some g→base≤g:=by
  intro g hg2;rcases hown.2 with ⟨rfl,_⟩ | ⟨g',cap,cur,rfl,h4,h5,_⟩
  ·simp[Value.ownBlock] at hg2
  ·simp[Value.ownBlock] at hg2;omega
 exact⟨hg.os,hg.tape,hg.output,hg.size,fun j hj=>hg.block j (by omega) (fun e=>by have:=hbr j e.symm;omega)⟩
structure RhAS where
 b0:Bool
 b1:Bool
 b2:Bool
 b3:Bool
 b4:Bool
 b5:Bool
 b6:Bool
 b7:Bool
 b8:Bool
 b9:Bool
 b10:Bool
 b11:Bool
 b12:Bool
 b13:Bool
 b14:Bool
 b15:Bool
 b16:Bool
 b17:Bool
 b18:Bool
 b19:Bool
 b20:Bool
 b21:Bool
 b22:Bool
 b23:Bool
 v51:Value
 v52:Value
 v53:Value
 v54:Value
 v55:Value
 v56:Value
 v57:Value
 v58:Value
 v59:Value
 v60:Value
 v61:Value
 v62:Value
 v63:Value
 v64:Value
 v65:Value
 v66:Value
 v67:Value
 v68:Value
 v69:Value
 v70:Value
 v71:Value
 v72:Value
 v73:Value
 v6:Value
structure RhA (V:World)(bs:Nat)(acc:List Cel)(xv:Value)(gb:Nat)(go0:Nat)(pl:Nat)(pc:Nat)(i:Nat)(qx:Int)(qy:Int)(qs:Int)(bx:Int)(bY:Int)(s:RhAS)(w:World):Prop where
 h0:s.b0=true→s.v51=xv
 h1:s.b1=true→s.v52=.slice (some ⟨gb,go0,none⟩) pl pc
 h2:s.b2=true→s.v53=.int .i64 (i:Int)
 h3:s.b3=true→s.v54=.pointer (some ⟨gb,go0+i*3,none⟩)
 h4:s.b4=true→s.v55=.pointer (some ⟨gb,go0+i*3,none⟩)
 h5:s.b5=true→s.v56=.int .i64 qx
 h6:s.b6=true→s.v57=.int .i64 bx
 h7:s.b7=true→s.v58=.int .i64 (qx - bx)
 h8:s.b8=true→s.v59=.slice (some ⟨gb,go0,none⟩) pl pc
 h9:s.b9=true→s.v60=.int .i64 (i:Int)
 h10:s.b10=true→s.v61=.pointer (some ⟨gb,go0+i*3,none⟩)
 h11:s.b11=true→s.v62=.pointer (some ⟨gb,go0+i*3+1,none⟩)
 h12:s.b12=true→s.v63=.int .i64 qy
 h13:s.b13=true→s.v64=.int .i64 bY
 h14:s.b14=true→s.v65=.int .i64 (qy - bY)
 h15:s.b15=true→s.v66=.slice (some ⟨gb,go0,none⟩) pl pc
 h16:s.b16=true→s.v67=.int .i64 (i:Int)
 h17:s.b17=true→s.v68=.pointer (some ⟨gb,go0+i*3,none⟩)
 h18:s.b18=true→s.v69=.pointer (some ⟨gb,go0+i*3+2,none⟩)
 h19:s.b19=true→s.v70=.int .i64 qs
 h20:s.b20=true→s.v71=.agg #[.int .i64 (qx - bx),.int .i64 (qy - bY),.int .i64 qs]
 below:Below bs V w
 low:bs≤w.heap.size
 row:s.b22=false→OwnC 114 w bs xv acc
 sb:s.b21=true→s.b22=false→∃ g,s.v72=.slice (some ⟨g,0,none⟩) 1 1∧g < w.heap.size∧Blk w g 114 #[.int .i64 (qx - bx),.int .i64 (qy - bY),.int .i64 qs]
 wc:s.b22=true→∃ X c,s.v73=.slice X (acc.length+1) c∧OwnC 114 w bs (.slice X (acc.length+1) c) (acc ++ [⟨qx - bx,qy - bY,qs⟩])
 hx:s.b23=false→s.v6=xv
 he:s.b23=true→s.v6=s.v73
 oe:s.b23=true→s.b22=true
 oa:s.b22=true→s.b0=true∧s.b21=true
theorem run_min2i {P:Program}{w:World}(ts:Array TypeId)(t:TypeId)(x y:Int):(Builtin.min_ ts t #[.int .i64 x,.int .i64 y]).run P w=.ok (.int .i64 (min x y)) w:=by
 simp[Builtin.min_,Builtin.min2];omega
set_option maxHeartbeats 8000000 in
theorem rhome_any (A:Option Addr)(c:Nat)(ps:List Cel)(w:World)(ha:Cls w A ps) :
  Calls Tryz.prog 52 #[.slice A ps.length c] w (RetHm A ps w):=by
 have h2:=box_two ps;have hR:=hid (rright_any A c ps w ha);cases k2:(boxC ps).2 with
 | false=>
  have E:Hid (homeC ps=ps):=hid (by unfold homeC;rw[k2,if_neg Bool.false_ne_true]);have HA:=hid ha;rw[k2] at h2;cases hr:rightC ps with
  | false=>
   rw[hr] at hR;clear ha h2 k2 hr;go_enter Tryz.func52,Tryz.ntmps52;go_wp2_with (go_at_call 50;refine hR.out.mono ?_;rintro e w1 ⟨rfl,hb1⟩;refine Hid.out ?_);refine hid ?_;have HB1:=hid hb1;clear hb1 hR;go_wp2;go_ret;unfold RetHm;rw[E.out];exact⟨A,c,rfl,HA.out.ext HB1.out,.inl rfl,HB1.out⟩
  | true=>
   rw[hr] at hR h2;have hn:ps=[]:=by
    have:=h2.symm;rw[Bool.and_true,decide_eq_false_iff_not] at this;exact Classical.not_not.1 this
   have hl0:((ps.length:Int) == 0)=true:=by rw[hn];rfl
   have HL0:=hid hl0;clear ha h2 k2 hr hn hl0;go_enter Tryz.func52,Tryz.ntmps52;go_wp2_with (go_at_call 50;refine hR.out.mono ?_;rintro e w1 ⟨rfl,hb1⟩;refine Hid.out ?_);refine hid ?_;have HB1:=hid hb1;clear hb1 hR;have hl0:=HL0.out;go_wp2;go_ret;unfold RetHm;rw[E.out];exact⟨A,c,rfl,HA.out.ext HB1.out,.inl rfl,HB1.out⟩
 | true=>
  have hr:ps≠[]∧rightC ps=true:=by
   rw[k2] at h2;have:=h2.symm;rw[Bool.and_eq_true,decide_eq_true_eq] at this;exact this
  have hbd:=right_bd hr.2;have hxy:=box_xy k2;have hlx:=lo_bd (·.x) hr.1 (fun c hc=>(hbd c hc).1);have hly:=lo_bd (·.y) hr.1 (fun c hc=>(hbd c hc).2.1);have E:Hid (homeC ps=ps.map (mvC (lo (·.x) ps ps.length) (lo (·.y) ps ps.length))):=hid (by unfold homeC;rw[k2,if_pos rfl,hxy.1,hxy.2]);have hL:ps.length≤5000:=by
   have:=hr.2;unfold rightC at this;rw[Bool.and_eq_true,decide_eq_true_eq] at this;exact this.1
  have hpos:0 < ps.length:=List.length_pos_iff.2 hr.1;have hnz:((ps.length:Int) == 0)=false:=beq_false_of_ne (by omega);have HD0:Hid (∀ h:0 < ps.length,ps[0]'h=hdC ps):=hid (by
   intro h;cases ps with
   | nil=>exact absurd rfl hr.1
   | cons a l=>rfl)
  rw[hr.2] at hR;have HX0:Hid (lo (·.x) ps 0=(hdC ps).x∧lo (·.y) ps 0=(hdC ps).y):=hid ⟨rfl,rfl⟩;have HBD:=hid hbd;have HLX:=hid hlx;have HLY:=hid hly;have HL:=hid hL;have HA:=hid ha;have HPOS:=hid hpos;clear ha h2 k2 hr hbd hxy hlx hly hL hpos;go_enter Tryz.func52,Tryz.ntmps52;go_upto_region 3 with (go_at_call 50;refine hR.out.mono ?_;rintro e w1 ⟨rfl,hb1⟩;refine Hid.out ?_)
  refine hid ?_;have HB1:=hid hb1;obtain⟨gb,go0,e0,-,g0,g1,-⟩:=(HA.out.ext hb1).at_ HPOS.out;have HA1:=hid (HA.out.ext hb1);subst e0;rw[Nat.zero_mul,Nat.add_zero] at g0 g1;rw[HD0.out,← HX0.out.1] at g0;rw[HD0.out,← HX0.out.2] at g1;have hpos:=HPOS.out;clear hb1 hR hnz HA HX0;go_upto_region 3 with fail
  go_quiet (fail)
  obtain⟨w2,hw2⟩:∃ W,W=w1.drewN nq:=⟨_,rfl⟩
  rw[← hw2];have HB2:Hid (Below w.heap.size w w2):=hid (by rw[hw2];exact below_drewN HB1.out _);have HA2:Hid (Cls w2 (some ⟨gb,go0,none⟩) ps):=hid (by rw[hw2];exact HA1.out.drewN _);clear hw2 g0 g1 HA1 HB1;go_wp2;go_loopw [3,4,5] (fun x y i wr=>∃ (kk q:Nat),kk≤ps.length∧i=.int .i64 kk∧x=.int .i64 (lo (·.x) ps kk)∧y=.int .i64 (lo (·.y) ps kk)∧wr=w2.drewN q) (fun _ _ i _=>ps.length - (intOf i).toNat)
  case atStart=>exact⟨0,0,Nat.zero_le _,rfl,rfl,rfl,rfl⟩
  case round=>
   obtain⟨kk,q,hk,rfl,rfl,rfl,rfl⟩:=hrel;by_cases hlt:kk < ps.length
   ·obtain⟨b1,o1,e1,-,g0,g1,-⟩:=HA2.out.at_ hlt;injection e1 with e1
    injection e1 with e1 e2
    subst e1 e2;have hw1:wrap64 ((kk:Int)+1)=(kk:Int)+1:=by have:=HL.out;unfold wrap64;omega
    have HS:=hid (And.intro (lo_snoc (·.x) hlt) (lo_snoc (·.y) hlt));have hmin:=fun (ts:Array TypeId) (t:TypeId) (x y:Int) (W:World)=>run_min2i (P:=Tryz.prog) (w:=W) ts t x y;obtain⟨lx,hlx⟩:∃ z,z=lo (·.x) ps kk:=⟨_,rfl⟩
    obtain⟨ly,hly⟩:∃ z,z=lo (·.y) ps kk:=⟨_,rfl⟩
    rw[← hlx,← hly] at HS ⊢;clear hlx hly;go_upto_region 7 with fail
    go_quiet (fail)
    go_wp2;go_roundw
    case rel=>exact⟨kk+1,_,hlt,(by rw[hw1];rfl),by rw[HS.out.1],by rw[HS.out.2],rfl⟩
    case measure=>rw[hw1];exact meas_step5b hlt
   ·have dk:decide ((kk:Int) < ps.length)=false:=decide_eq_false (by omega);have ek:kk=ps.length:=by omega
    have HLX2:=hid (HLX.out kk);have HLY2:=hid (HLY.out kk);have E2:Hid (homeC ps=ps.map (mvC (lo (·.x) ps kk) (lo (·.y) ps kk))):=hid (by rw[ek];exact E.out);obtain⟨bx,hbx⟩:∃ z,z=lo (·.x) ps kk:=⟨_,rfl⟩
    obtain⟨bY,hbY⟩:∃ z,z=lo (·.y) ps kk:=⟨_,rfl⟩
    rw[← hbx] at HLX2 E2 ⊢;rw[← hbY] at HLY2 E2 ⊢;have HB3:Hid (Below w.heap.size w (w2.drewN q)):=hid (below_drewN HB2.out _);have HA3:Hid (Cls (w2.drewN q) (some ⟨gb,go0,none⟩) ps):=hid (HA2.out.drewN _);obtain⟨w3,hw3⟩:∃ W,W=w2.drewN q:=⟨_,rfl⟩
    rw[← hw3] at HB3 HA3 ⊢;clear hbx hbY hw3 E HLX HLY HA2 HB2 ek;go_wp2;clear dk;go_loopw [6,7] (fun v i wr=>∃ (k:Nat),k≤ps.length∧i=.int .i64 k∧Hid (Below w3.heap.size w3 wr)∧Hid (OwnC 114 wr w3.heap.size v ((ps.take k).map (mvC bx bY)))) (fun _ i _=>ps.length - (intOf i).toNat)
    case atStart=>exact⟨0,Nat.zero_le _,rfl,hid (Below.refl _ _),hid (OwnC.nil _ _ _)⟩
    case round=>
     obtain⟨k,hk,rfl,HB,HO⟩:=hrel;by_cases hlt:k < ps.length
     ·obtain⟨b1,o1,e1,hbl,g0,g1,g2⟩:=HA3.out.at_ hlt;injection e1 with e1
      injection e1 with e1 e2
      subst e1 e2;have HSN:=hid (home_snoc bx bY hlt);have hq:=HBD.out _ (List.getElem_mem hlt);obtain⟨qq,hqe⟩:∃ q,q=ps[k]:=⟨_,rfl⟩
      rw[← hqe] at g0 g1 g2 HSN hq;obtain⟨qx,qy,qs⟩:=qq;dsimp only at g0 g1 g2 HSN hq;have hw1:wrap64 ((k:Int)+1)=(k:Int)+1:=by have:=HL.out;unfold wrap64;omega
      have hw2:wrap64 (qx - bx)=qx - bx:=by have:=HLX2.out;unfold wrap64;omega
      have hw3:wrap64 (qy - bY)=qy - bY:=by have:=HLY2.out;unfold wrap64;omega
      obtain⟨acc,hacc⟩:∃ l,l=(ps.take k).map (mvC bx bY):=⟨_,rfl⟩
      rw[← hacc] at HSN HO;have HROW:=HO;have HAL:Hid (acc.length < 4294967296):=hid (by have:=HL.out;rw[hacc,List.length_map];have h2:=List.length_take_le k ps;omega);have HBS:Hid (w3.heap.size≤wr.heap.size):=hid HB.out.size;have HG:=hid (And.intro g0 (And.intro g1 g2));have HLT:=hid hlt;have HBL:=hid hbl;clear hqe hacc hq HO g0 g1 g2 hbl;go_upto_region 12 with fail
      have hnz2:((ps.length:Int) == 0)=false:=beq_false_of_ne (by have:=HPOS.out;omega);simp only[hnz2];clear hlt hnz2;refine wp_region_J (by kernel_rfl) (fun listed act w'=>∃ s:RhAS,listed=#[s.b0,s.b1,s.b2,s.b3,s.b4,s.b5,s.b6,s.b7,s.b8,s.b9,s.b10,s.b11,s.b12,s.b13,s.b14,s.b15,s.b16,s.b17,s.b18,s.b19,s.b20,s.b21,s.b22,s.b23]∧act=Act.mk #[.slice (some ⟨gb,go0,none⟩) ps.length c,undef,.slice none 0 0,.int .i64 bx,.int .i64 bY,.int .i64 (kk:Int),s.v6,.int .i64 (k:Int),.slice (some ⟨gb,go0,none⟩) ps.length c,.bool true,.bool false,.bool false,.slice (some ⟨gb,go0,none⟩) ps.length c,.int .i64 (ps.length:Int),.bool false,.bool false,undef,.slice (some ⟨gb,go0,none⟩) ps.length c,.pointer (some ⟨gb,go0,none⟩),.pointer (some ⟨gb,go0,none⟩),.int .i64 (lo (fun x=>x.x) ps 0),.slice (some ⟨gb,go0,none⟩) ps.length c,.pointer (some ⟨gb,go0,none⟩),.pointer (some ⟨gb,go0+1,none⟩),.int .i64 (lo (fun x=>x.y) ps 0),.int .i64 (kk:Int),.slice (some ⟨gb,go0,none⟩) ps.length c,.int .i64 (ps.length:Int),.bool false,u29,u30,u31,u32,u33,u34,u35,u36,u37,u38,u39,u40,u41,u42,u43,u44,.int .i64 (k:Int),.slice (some ⟨gb,go0,none⟩) ps.length c,.int .i64 (ps.length:Int),.bool true,u49,u50,s.v51,s.v52,s.v53,s.v54,s.v55,s.v56,s.v57,s.v58,s.v59,s.v60,s.v61,s.v62,s.v63,s.v64,s.v65,s.v66,s.v67,s.v68,s.v69,s.v70,s.v71,s.v72,s.v73,undef] []∧RhA w3 w3.heap.size acc u6 gb go0 ps.length c k qx qy qs bx bY s w') ?_ ?_ ?_
      ·exact⟨⟨_,_,_,_,_,_,_,_,_,_,_,_,_,_,_,_,_,_,_,_,_,_,_,_,_,_,_,_,_,_,_,_,_,_,_,_,_,_,_,_,_,_,_,_,_,_,_,_⟩,rfl,rfl,⟨(fun h=>by cases h),(fun h=>by cases h),(fun h=>by cases h),(fun h=>by cases h),(fun h=>by cases h),(fun h=>by cases h),(fun h=>by cases h),(fun h=>by cases h),(fun h=>by cases h),(fun h=>by cases h),(fun h=>by cases h),(fun h=>by cases h),(fun h=>by cases h),(fun h=>by cases h),(fun h=>by cases h),(fun h=>by cases h),(fun h=>by cases h),(fun h=>by cases h),(fun h=>by cases h),(fun h=>by cases h),(fun h=>by cases h),HB.out.drew,HBS.out,(fun _=>HROW.out),(fun h=>by cases h),(fun h=>by cases h),(fun _=>rfl),(fun h=>by cases h),(fun h=>by cases h),(fun h=>by cases h)⟩⟩
      ·rintro i listed act w' hi ⟨⟨b0,b1,b2,b3,b4,b5,b6,b7,b8,b9,b10,b11,b12,b13,b14,b15,b16,b17,b18,b19,b20,b21,b22,b23,v51,v52,v53,v54,v55,v56,v57,v58,v59,v60,v61,v62,v63,v64,v65,v66,v67,v68,v69,v70,v71,v72,v73,v6⟩,rfl,rfl,H⟩;dsimp only at hi ⊢;have hi16:i < 24:=by
        obtain⟨-,o,ho,-⟩:=mem_ready.1 hi;exact (Array.getElem?_eq_some_iff.1 ho).1
       obtain rfl | rfl | rfl | rfl | rfl | rfl | rfl | rfl | rfl | rfl | rfl | rfl | rfl | rfl | rfl | rfl | rfl | rfl | rfl | rfl | rfl | rfl | rfl | rfl:i=0∨i=1∨i=2∨i=3∨i=4∨i=5∨i=6∨i=7∨i=8∨i=9∨i=10∨i=11∨i=12∨i=13∨i=14∨i=15∨i=16∨i=17∨i=18∨i=19∨i=20∨i=21∨i=22∨i=23:=by clear hi H;omega
       all_goals clear hi16
       ·have hn0:b0=false:=(mem_ready.1 hi).1;have hE:b23=false:=by
         cases hb:b23 with
         | false=>rfl
         | true=>have h1:=(H.oa (H.oe hb)).1;rw[hn0] at h1;cases h1
        have e0:=H.hx hE;subst e0;have hA:b22=false:=by
         cases hb:b22 with
         | false=>rfl
         | true=>have h1:=(H.oa hb).1;rw[hn0] at h1;cases h1
        refine wpOp_hidden rfl fun K hK=>?_;go_wp2;refine OnlyN.mk (hK.out _ _ ⟨⟨true,_,_,_,_,_,_,_,_,_,_,_,_,_,_,_,_,_,_,_,_,_,_,_,_,_,_,_,_,_,_,_,_,_,_,_,_,_,_,_,_,_,_,_,_,_,_,_⟩,rfl,rfl,{ H with h0:=fun _=>rfl,oa:=fun h=>⟨rfl,(H.oa h).2⟩ }⟩)
       ·refine wpOp_hidden rfl fun K hK=>?_;go_wp2;refine OnlyN.mk (hK.out _ _ ⟨⟨_,true,_,_,_,_,_,_,_,_,_,_,_,_,_,_,_,_,_,_,_,_,_,_,_,.slice (some ⟨gb,go0,none⟩) ps.length c,_,_,_,_,_,_,_,_,_,_,_,_,_,_,_,_,_,_,_,_,_,_⟩,rfl,rfl,{ H with h1:=fun _=>rfl }⟩)
       ·refine wpOp_hidden rfl fun K hK=>?_;go_wp2;refine OnlyN.mk (hK.out _ _ ⟨⟨_,_,true,_,_,_,_,_,_,_,_,_,_,_,_,_,_,_,_,_,_,_,_,_,_,_,.int .i64 (k:Int),_,_,_,_,_,_,_,_,_,_,_,_,_,_,_,_,_,_,_,_,_⟩,rfl,rfl,{ H with h2:=fun _=>rfl }⟩)
       ·have e1:v52=.slice (some ⟨gb,go0,none⟩) ps.length c:=H.h1 (ready_dep hi 1 (by kernel_rfl));subst e1;have e2:v53=.int .i64 (k:Int):=H.h2 (ready_dep hi 2 (by kernel_rfl));subst e2;have hx:=HLT.out;refine wpOp_hidden rfl fun K hK=>?_;go_wp2;refine OnlyN.mk (hK.out _ _ ⟨⟨_,_,_,true,_,_,_,_,_,_,_,_,_,_,_,_,_,_,_,_,_,_,_,_,_,_,_,.pointer (some ⟨gb,go0+k*3,none⟩),_,_,_,_,_,_,_,_,_,_,_,_,_,_,_,_,_,_,_,_⟩,rfl,rfl,{ H with h3:=fun _=>rfl }⟩)
       ·have e3:v54=.pointer (some ⟨gb,go0+k*3,none⟩):=H.h3 (ready_dep hi 3 (by kernel_rfl));subst e3;refine wpOp_hidden rfl fun K hK=>?_;go_wp2;refine OnlyN.mk (hK.out _ _ ⟨⟨_,_,_,_,true,_,_,_,_,_,_,_,_,_,_,_,_,_,_,_,_,_,_,_,_,_,_,_,.pointer (some ⟨gb,go0+k*3,none⟩),_,_,_,_,_,_,_,_,_,_,_,_,_,_,_,_,_,_,_⟩,rfl,rfl,{ H with h4:=fun _=>rfl }⟩)
       ·have e4:v55=.pointer (some ⟨gb,go0+k*3,none⟩):=H.h4 (ready_dep hi 4 (by kernel_rfl));subst e4;have cc:=(H.below.cell HBL.out).trans HG.out.1;refine wpOp_hidden rfl fun K hK=>?_;go_wp2;refine OnlyN.mk (hK.out _ _ ⟨⟨_,_,_,_,_,true,_,_,_,_,_,_,_,_,_,_,_,_,_,_,_,_,_,_,_,_,_,_,_,.int .i64 qx,_,_,_,_,_,_,_,_,_,_,_,_,_,_,_,_,_,_⟩,rfl,rfl,{ H with h5:=fun _=>rfl }⟩)
       ·refine wpOp_hidden rfl fun K hK=>?_;go_wp2;refine OnlyN.mk (hK.out _ _ ⟨⟨_,_,_,_,_,_,true,_,_,_,_,_,_,_,_,_,_,_,_,_,_,_,_,_,_,_,_,_,_,_,.int .i64 bx,_,_,_,_,_,_,_,_,_,_,_,_,_,_,_,_,_⟩,rfl,rfl,{ H with h6:=fun _=>rfl }⟩)
       ·have e5:v56=.int .i64 qx:=H.h5 (ready_dep hi 5 (by kernel_rfl));subst e5;have e6:v57=.int .i64 bx:=H.h6 (ready_dep hi 6 (by kernel_rfl));subst e6;refine wpOp_hidden rfl fun K hK=>?_;go_wp2;refine OnlyN.mk (hK.out _ _ ⟨⟨_,_,_,_,_,_,_,true,_,_,_,_,_,_,_,_,_,_,_,_,_,_,_,_,_,_,_,_,_,_,_,.int .i64 (qx - bx),_,_,_,_,_,_,_,_,_,_,_,_,_,_,_,_⟩,rfl,rfl,{ H with h7:=fun _=>rfl }⟩)
       ·refine wpOp_hidden rfl fun K hK=>?_;go_wp2;refine OnlyN.mk (hK.out _ _ ⟨⟨_,_,_,_,_,_,_,_,true,_,_,_,_,_,_,_,_,_,_,_,_,_,_,_,_,_,_,_,_,_,_,_,.slice (some ⟨gb,go0,none⟩) ps.length c,_,_,_,_,_,_,_,_,_,_,_,_,_,_,_⟩,rfl,rfl,{ H with h8:=fun _=>rfl }⟩)
       ·refine wpOp_hidden rfl fun K hK=>?_;go_wp2;refine OnlyN.mk (hK.out _ _ ⟨⟨_,_,_,_,_,_,_,_,_,true,_,_,_,_,_,_,_,_,_,_,_,_,_,_,_,_,_,_,_,_,_,_,_,.int .i64 (k:Int),_,_,_,_,_,_,_,_,_,_,_,_,_,_⟩,rfl,rfl,{ H with h9:=fun _=>rfl }⟩)
       ·have e8:v59=.slice (some ⟨gb,go0,none⟩) ps.length c:=H.h8 (ready_dep hi 8 (by kernel_rfl));subst e8;have e9:v60=.int .i64 (k:Int):=H.h9 (ready_dep hi 9 (by kernel_rfl));subst e9;have hx:=HLT.out;refine wpOp_hidden rfl fun K hK=>?_;go_wp2;refine OnlyN.mk (hK.out _ _ ⟨⟨_,_,_,_,_,_,_,_,_,_,true,_,_,_,_,_,_,_,_,_,_,_,_,_,_,_,_,_,_,_,_,_,_,_,.pointer (some ⟨gb,go0+k*3,none⟩),_,_,_,_,_,_,_,_,_,_,_,_,_⟩,rfl,rfl,{ H with h10:=fun _=>rfl }⟩)
       ·have e10:v61=.pointer (some ⟨gb,go0+k*3,none⟩):=H.h10 (ready_dep hi 10 (by kernel_rfl));subst e10;refine wpOp_hidden rfl fun K hK=>?_;go_wp2;refine OnlyN.mk (hK.out _ _ ⟨⟨_,_,_,_,_,_,_,_,_,_,_,true,_,_,_,_,_,_,_,_,_,_,_,_,_,_,_,_,_,_,_,_,_,_,_,.pointer (some ⟨gb,go0+k*3+1,none⟩),_,_,_,_,_,_,_,_,_,_,_,_⟩,rfl,rfl,{ H with h11:=fun _=>rfl }⟩)
       ·have e11:v62=.pointer (some ⟨gb,go0+k*3+1,none⟩):=H.h11 (ready_dep hi 11 (by kernel_rfl));subst e11;have cc:=(H.below.cell HBL.out).trans HG.out.2.1;refine wpOp_hidden rfl fun K hK=>?_;go_wp2;refine OnlyN.mk (hK.out _ _ ⟨⟨_,_,_,_,_,_,_,_,_,_,_,_,true,_,_,_,_,_,_,_,_,_,_,_,_,_,_,_,_,_,_,_,_,_,_,_,.int .i64 qy,_,_,_,_,_,_,_,_,_,_,_⟩,rfl,rfl,{ H with h12:=fun _=>rfl }⟩)
       ·refine wpOp_hidden rfl fun K hK=>?_;go_wp2;refine OnlyN.mk (hK.out _ _ ⟨⟨_,_,_,_,_,_,_,_,_,_,_,_,_,true,_,_,_,_,_,_,_,_,_,_,_,_,_,_,_,_,_,_,_,_,_,_,_,.int .i64 bY,_,_,_,_,_,_,_,_,_,_⟩,rfl,rfl,{ H with h13:=fun _=>rfl }⟩)
       ·have e12:v63=.int .i64 qy:=H.h12 (ready_dep hi 12 (by kernel_rfl));subst e12;have e13:v64=.int .i64 bY:=H.h13 (ready_dep hi 13 (by kernel_rfl));subst e13;refine wpOp_hidden rfl fun K hK=>?_;go_wp2;refine OnlyN.mk (hK.out _ _ ⟨⟨_,_,_,_,_,_,_,_,_,_,_,_,_,_,true,_,_,_,_,_,_,_,_,_,_,_,_,_,_,_,_,_,_,_,_,_,_,_,.int .i64 (qy - bY),_,_,_,_,_,_,_,_,_⟩,rfl,rfl,{ H with h14:=fun _=>rfl }⟩)
       ·refine wpOp_hidden rfl fun K hK=>?_;go_wp2;refine OnlyN.mk (hK.out _ _ ⟨⟨_,_,_,_,_,_,_,_,_,_,_,_,_,_,_,true,_,_,_,_,_,_,_,_,_,_,_,_,_,_,_,_,_,_,_,_,_,_,_,.slice (some ⟨gb,go0,none⟩) ps.length c,_,_,_,_,_,_,_,_⟩,rfl,rfl,{ H with h15:=fun _=>rfl }⟩)
       ·refine wpOp_hidden rfl fun K hK=>?_;go_wp2;refine OnlyN.mk (hK.out _ _ ⟨⟨_,_,_,_,_,_,_,_,_,_,_,_,_,_,_,_,true,_,_,_,_,_,_,_,_,_,_,_,_,_,_,_,_,_,_,_,_,_,_,_,.int .i64 (k:Int),_,_,_,_,_,_,_⟩,rfl,rfl,{ H with h16:=fun _=>rfl }⟩)
       ·have e15:v66=.slice (some ⟨gb,go0,none⟩) ps.length c:=H.h15 (ready_dep hi 15 (by kernel_rfl));subst e15;have e16:v67=.int .i64 (k:Int):=H.h16 (ready_dep hi 16 (by kernel_rfl));subst e16;have hx:=HLT.out;refine wpOp_hidden rfl fun K hK=>?_;go_wp2;refine OnlyN.mk (hK.out _ _ ⟨⟨_,_,_,_,_,_,_,_,_,_,_,_,_,_,_,_,_,true,_,_,_,_,_,_,_,_,_,_,_,_,_,_,_,_,_,_,_,_,_,_,_,.pointer (some ⟨gb,go0+k*3,none⟩),_,_,_,_,_,_⟩,rfl,rfl,{ H with h17:=fun _=>rfl }⟩)
       ·have e17:v68=.pointer (some ⟨gb,go0+k*3,none⟩):=H.h17 (ready_dep hi 17 (by kernel_rfl));subst e17;refine wpOp_hidden rfl fun K hK=>?_;go_wp2;refine OnlyN.mk (hK.out _ _ ⟨⟨_,_,_,_,_,_,_,_,_,_,_,_,_,_,_,_,_,_,true,_,_,_,_,_,_,_,_,_,_,_,_,_,_,_,_,_,_,_,_,_,_,_,.pointer (some ⟨gb,go0+k*3+2,none⟩),_,_,_,_,_⟩,rfl,rfl,{ H with h18:=fun _=>rfl }⟩)
       ·have e18:v69=.pointer (some ⟨gb,go0+k*3+2,none⟩):=H.h18 (ready_dep hi 18 (by kernel_rfl));subst e18;have cc:=(H.below.cell HBL.out).trans HG.out.2.2;refine wpOp_hidden rfl fun K hK=>?_;go_wp2;refine OnlyN.mk (hK.out _ _ ⟨⟨_,_,_,_,_,_,_,_,_,_,_,_,_,_,_,_,_,_,_,true,_,_,_,_,_,_,_,_,_,_,_,_,_,_,_,_,_,_,_,_,_,_,_,.int .i64 qs,_,_,_,_⟩,rfl,rfl,{ H with h19:=fun _=>rfl }⟩)
       ·have e7:v58=.int .i64 (qx - bx):=H.h7 (ready_dep hi 7 (by kernel_rfl));subst e7;have e14:v65=.int .i64 (qy - bY):=H.h14 (ready_dep hi 14 (by kernel_rfl));subst e14;have e19:v70=.int .i64 qs:=H.h19 (ready_dep hi 19 (by kernel_rfl));subst e19;refine wpOp_hidden rfl fun K hK=>?_;go_wp2;refine OnlyN.mk (hK.out _ _ ⟨⟨_,_,_,_,_,_,_,_,_,_,_,_,_,_,_,_,_,_,_,_,true,_,_,_,_,_,_,_,_,_,_,_,_,_,_,_,_,_,_,_,_,_,_,_,.agg #[.int .i64 (qx - bx),.int .i64 (qy - bY),.int .i64 qs],_,_,_⟩,rfl,rfl,{ H with h20:=fun _=>rfl }⟩)
       ·have hn21:b21=false:=(mem_ready.1 hi).1;have hA:b22=false:=by
         cases hb:b22 with
         | false=>rfl
         | true=>have h1:=(H.oa hb).2;rw[hn21] at h1;cases h1
        have e20:v71=.agg #[.int .i64 (qx - bx),.int .i64 (qy - bY),.int .i64 qs]:=H.h20 (ready_dep hi 20 (by kernel_rfl));subst e20;have hb9:=below_new w' (.cells #[.int .i64 (qx - bx),.int .i64 (qy - bY),.int .i64 qs] 114);have HB9:=hid hb9;have HK9:=hid (Blk.new w' 114 #[.int .i64 (qx - bx),.int .i64 (qy - bY),.int .i64 qs]);clear hb9;refine wpOp_hidden rfl fun K hK=>?_;go_wp2;refine OnlyN.mk (hK.out _ _ ⟨⟨_,_,_,_,_,_,_,_,_,_,_,_,_,_,_,_,_,_,_,_,_,true,_,_,_,_,_,_,_,_,_,_,_,_,_,_,_,_,_,_,_,_,_,_,_,_,_,_⟩,rfl,rfl,{ H with below:=H.below.trans (HB9.out.mono H.low),low:=Nat.le_trans H.low HB9.out.size,row:=fun h=>(H.row h).ext HB9.out,sb:=fun _ _=>⟨_,rfl,HK9.out.lt,HK9.out⟩,wc:=fun h=>(Bool.false_ne_true (hA.symm.trans h)).elim,oa:=fun h=>(Bool.false_ne_true (hA.symm.trans h)).elim }⟩)
       ·have hn22:b22=false:=(mem_ready.1 hi).1;have b0t:=(ready_dep hi 0 (by kernel_rfl))
        have bBt:=(ready_dep hi 21 (by kernel_rfl))
        have hE:b23=false:=by
         cases hb:b23 with
         | false=>rfl
         | true=>have h1:=H.oe hb;rw[hn22] at h1;cases h1
        have e0:=H.h0 b0t;subst e0;obtain⟨g,hv,hg,hblk⟩:=H.sb bBt hn22;subst hv;have hrow:=H.row hn22;have hws:=H.low;have hal:=HAL.out;refine wpOp_hidden rfl fun K hK=>?_;refine wpList_pushCb rfl _ _ _ rfl _ 114 Tryz.underlying30 Tryz.infoCel6 _ _ rfl hrow _ _ _ hblk rfl hal hws ?_;intro xv' w6 ho6 hb6;obtain⟨xA',xc',hxv',-,-⟩:=ho6.cls;rw[List.length_append,List.length_singleton] at hxv';subst hxv';have HO6:=hid ho6;have HB6:=hid hb6;clear ho6 hb6 hrow hal hws hblk;go_wp2;refine OnlyN.mk (hK.out _ _ ⟨⟨_,_,_,_,_,_,_,_,_,_,_,_,_,_,_,_,_,_,_,_,_,_,true,_,_,_,_,_,_,_,_,_,_,_,_,_,_,_,_,_,_,_,_,_,_,_,_,_⟩,rfl,rfl,{ H with below:=H.below.trans HB6.out,low:=Nat.le_trans H.low HB6.out.size,row:=fun h=>(by cases h),sb:=fun _ h=>(by cases h),wc:=fun _=>⟨_,_,rfl,HO6.out⟩,he:=fun h=>(Bool.false_ne_true (hE.symm.trans h)).elim,oe:=fun _=>rfl,oa:=fun _=>⟨b0t,bBt⟩ }⟩)
       ·have bAt:=(ready_dep hi 22 (by kernel_rfl))
        obtain⟨xA',xc',hv,ho6⟩:=H.wc bAt;subst hv;clear ho6;refine wpOp_hidden rfl fun K hK=>?_;go_wp2;refine OnlyN.mk (hK.out _ _ ⟨⟨_,_,_,_,_,_,_,_,_,_,_,_,_,_,_,_,_,_,_,_,_,_,_,true,_,_,_,_,_,_,_,_,_,_,_,_,_,_,_,_,_,_,_,_,_,_,_,_⟩,rfl,rfl,{ H with hx:=fun h=>(by cases h),he:=fun _=>rfl,oe:=fun _=>bAt }⟩)
      ·rintro listed act w' hr ⟨⟨b0,b1,b2,b3,b4,b5,b6,b7,b8,b9,b10,b11,b12,b13,b14,b15,b16,b17,b18,b19,b20,b21,b22,b23,v51,v52,v53,v54,v55,v56,v57,v58,v59,v60,v61,v62,v63,v64,v65,v66,v67,v68,v69,v70,v71,v72,v73,v6⟩,rfl,rfl,H⟩;dsimp only at hr ⊢;have hd:=ready_done hr (by kernel_rfl) (by kernel_rfl);try dsimp only
       have bAt:=hd 22 (by decide);have bEt:=hd 23 (by decide);obtain⟨X,c9,hv,ho⟩:=H.wc bAt;have he:=H.he bEt;rw[hv] at he;subst he;have hb:=H.below;have HO9:Hid (OwnC 114 w' w3.heap.size (.slice X (acc.length+1) c9) ((ps.take (k+1)).map (mvC bx bY))):=hid (by rw[HSN.out];exact ho);have HB9:=hid (hb);have hlt:=HLT.out;clear H hr hd ho hb bAt bEt hv;go_wp2;go_roundw
       case rel=>exact⟨k+1,hlt,(by first | rfl | omega),(by first | exact HO9 | (have h:=HO9.out;rw[List.map_take] at h;exact hid h))⟩
       case measure=>(try rw[hw1]);exact meas_step5b hlt
     ·have dk:decide ((k:Int) < ps.length)=false:=decide_eq_false (by omega);have ek:k=ps.length:=by omega
      have HO1:=HO.out;rw[ek,List.take_length,← E2.out] at HO1;obtain⟨A',c',hv,hcl,hnw⟩:=(HO1.low56 HB3.out.size).cls;have HCL:=hid hcl;have HNW:=hid hnw;subst hv;clear HO1 HO hcl hnw;go_wp2;go_ret;exact⟨A',c',rfl,HCL.out,.inr HNW.out,HB3.out.trans (HB.out.mono HB3.out.size)⟩
end Go.Proofs.YtcfelnhmifkelaaGreatDoor
