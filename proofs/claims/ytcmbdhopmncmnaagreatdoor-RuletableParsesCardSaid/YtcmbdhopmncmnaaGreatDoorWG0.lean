/-
  texts Base Ints Own Dfs Key Nd: parts of the proof; conditions stand with each theorem.
-/
import Derived.WalkKit
import Derived.WalkSpells
import Derived.WalkLawsBesides
import Derived.Below
import Derived.Laws.OwnMore
import Derived.Laws.Rows
import Derived.Laws.MakeOwn
import Derived.Laws.Entries
import Derived.Deep.AppendLies
import Derived.Deep.Draws
import Derived.Deep.QuietTactic
import Derived.Deep.OwnRows
import Derived.BigQuiet
import Derived.Maps.AppendAt
import Derived.RegionTactic
import Derived.OwnWalk
import Derived.Lib.Hide
import Derived.IntWalk
import Derived.Lib.ItoaNum
import Derived.Test.YtcmbdhopmncmnaaGreatDoorProg
import Derived.Maps.OwnSet
import Derived.Maps.Keyed
import Derived.Laws.IdiomStrings
import Derived.Lib.AppendIntMem
namespace Go.Proofs.YtcmbdhopmncmnaaGreatDoor
section
universe u0 u1 u2 u3 u4 u5 u6 u7
theorem e_8 {α0:Sort u0} {α1:Sort u1} {α2:Sort u2} {α3:Sort u3} {α4:Sort u4} {α5:Sort u5} {α6:Sort u6} {α7:Sort u7}{p:α0→α1→α2→α3→α4→α5→α6→α7→Prop}{a0:α0}{a1:α1}{a2:α2}{a3:α3}{a4:α4}{a5:α5}{a6:α6}{a7:α7}(h:p a0 a1 a2 a3 a4 a5 a6 a7):∃ a0 a1 a2 a3 a4 a5 a6 a7,p a0 a1 a2 a3 a4 a5 a6 a7:=⟨a0,a1,a2,a3,a4,a5,a6,a7,h⟩
theorem e_4 {α0:Sort u0} {α1:Sort u1} {α2:Sort u2} {α3:Sort u3}{p:α0→α1→α2→α3→Prop}{a0:α0}{a1:α1}{a2:α2}{a3:α3}(h:p a0 a1 a2 a3):∃ a0 a1 a2 a3,p a0 a1 a2 a3:=⟨a0,a1,a2,a3,h⟩
theorem e_2 {α0:Sort u0} {α1:Sort u1}{p:α0→α1→Prop}{a0:α0}{a1:α1}(h:p a0 a1):∃ a0 a1,p a0 a1:=⟨a0,a1,h⟩
theorem e_1 {α0:Sort u0}{p:α0→Prop}{a0:α0}(h:p a0):∃ a0,p a0:=⟨a0,h⟩
end
set_option linter.unusedSimpArgs false
open Go.RowKit
set_option linter.unusedVariables false

theorem block_of_add (a:Addr)(n:Nat):(a.add n).block=a.block:=by unfold Addr.add;split <;> rfl
def Reads (w:World)(B size:Nat)(A:Option Addr)(n:Nat)(xs:List Value):Prop:=
 xs.length=n*size∧(0 < n→∃ ad,A=some ad∧ad.block < B∧∀ j u,xs[j]?=some u→w.cell? (ad.add j)=some u)

section
variable {w w' : World} {B B' size n : Nat} {A : Option Addr} {xs : List Value}
theorem Reads.none_:Reads w B size A 0 []:=⟨by simp,fun h=>absurd h (by omega)⟩
theorem Reads.keep (h:Reads w B size A n xs)(hk:∀ p:Addr,p.block < B→w'.cell? p=w.cell? p):Reads w' B size A n xs:=
 ⟨h.1,fun hn=>by
  obtain⟨ad,e,hb,hc⟩:=h.2 hn;exact⟨ad,e,hb,fun j u hu=>(hk _ (by rw[block_of_add];exact hb)).trans (hc j u hu)⟩⟩
theorem Reads.more (h:Reads w B size A n xs)(hB:B≤B'):Reads w B' size A n xs:=
 ⟨h.1,fun hn=>by
  obtain⟨ad,e,hb,hc⟩:=h.2 hn;exact⟨ad,e,by omega,hc⟩⟩
theorem Reads.below (h:Reads w B size A n xs)(hb:Below B w w'):Reads w' B size A n xs:=h.keep fun _ hp=>hb.cell hp
theorem Reads.of_own {base:Nat}{e:TypeId}{c:Nat}(h:w.ownsRow base e size (.slice A n c) n xs):Reads w w.heap.size size A n xs:=by
 refine⟨h.1,fun hn=>?_⟩;obtain⟨g,cap,hv,_,hlt⟩:=h.form hn;have hA:A=some ⟨g,0,none⟩:=by injection hv
 subst hA;exact⟨_,rfl,hlt,h.cells (g:=g) rfl⟩
end

def Blk (w:World)(g:Nat)(t:TypeId)(cs:Array Value):Prop:=w.heap[g]?=some (.cells cs t (0,0))

section
variable {w w' : World} {g : Nat} {t : TypeId} {cs : Array Value}
theorem Blk.lt (h:Blk w g t cs):g < w.heap.size:=by
 rcases Nat.lt_or_ge g w.heap.size with hlt | hge
 ·exact hlt
 ·unfold Blk at h;rw[Array.getElem?_eq_none hge] at h;cases h
theorem Blk.cell (h:Blk w g t cs)(i:Nat):w.cell? ⟨g,i,none⟩=cs[i]?:=cell_of_row w g i cs t (0,0) h
theorem Blk.frozen (h:Blk w g t cs)(i:Nat):w.frozen? ⟨g,i,none⟩=false:=by
 unfold Blk at h;simp[World.frozen?,h]
theorem Blk.new (w:World)(t:TypeId)(cs:Array Value):Blk (w.alloc (.cells cs t)) w.heap.size t cs:=heap_alloc_new w _
theorem Blk.drew (h:Blk w g t cs):Blk w.drew g t cs:=h
theorem Blk.alloc (h:Blk w g t cs)(o:Obj):Blk (w.alloc o) g t cs:=(Below.heap_alloc w o g h.lt).trans h
theorem Blk.set_ (h:Blk w g t cs)(i:Nat)(u:Value):Blk (w.setCell ⟨g,i,none⟩ u) g t (cs.setIfInBounds i u):=by
 unfold Blk at h ⊢;simp[World.setCell,Array.getElem?_modify,h]
theorem Blk.far (h:Blk w g t cs){p:Addr}(hp:g≠p.block)(u:Value):Blk (w.setCell p u) g t cs:=(Below.heap_setCell w p u g hp).trans h
theorem Blk.below {B:Nat}(h:Blk w g t cs)(hb:Below B w w')(hg:g < B):Blk w' g t cs:=(hb.block g hg).trans h
theorem Blk.grown {row:Option Nat}(h:Blk w g t cs)(hb:w.grownBy w' row)(hg:some g≠row):Blk w' g t cs:=(hb.block g h.lt hg).trans h
theorem Blk.ne_ {g':Nat}{t':TypeId}{cs':Array Value}(h:Blk w g t cs)(h':Blk w g' t' cs')(hne:t≠t'):g≠g':=by
 rintro rfl;unfold Blk at h h';rw[h] at h';injection h' with h'
 injection h' with _ ht
 exact hne ht
theorem own_blk_ne {base:Nat}{e:TypeId}{size n:Nat}{v:Value}{xs:List Value}(h:w.ownsRow base e size v n xs)(hg:Blk w g t cs)(hne:e≠t):v.ownBlock≠some g:=by
 rcases h.2 with ⟨rfl,_⟩ | ⟨g',cap,cur,rfl,_,hh,_⟩
 ·simp[Value.ownBlock]
 ·intro he;have:g'=g:=by simpa [Value.ownBlock] using he
  subst this;exact Blk.ne_ (t:=e) hh hg hne rfl
end


theorem below_drewN {B:Nat}{a w:World}(h:Below B a w)(n:Nat):Below B a (w.drewN n):=⟨h.os,h.tape,h.output,h.size,h.block⟩
end Go.Proofs.YtcmbdhopmncmnaaGreatDoor
namespace Go.Proofs.YtcmbdhopmncmnaaGreatDoor
set_option linter.unusedSimpArgs false
set_option linter.unusedVariables false
open Go.RowKit

theorem addr_add (b o i:Nat):(⟨b,o,none⟩:Addr).add i=⟨b,o+i,none⟩:=by
 unfold Addr.add
 split
 ·subst i;rfl
 ·rfl
theorem spot_none {w:World}{b o:Nat}{sp:Option Nat}{u:Value}(h:w.cell? ((⟨b,o,sp⟩:Addr).add 0)=some u):sp=none:=by
 cases sp with
 | none=>rfl
 | some x=>
  simp only[Addr.add,if_pos,World.cell?] at h
  split at h <;> simp at h
def Ints (w:World)(A:Option Addr)(xs:List Int):Prop:=Reads w w.heap.size 1 A xs.length (xs.map (Value.int .i64))∧xs.length≤9223372036854775807

section
variable {w w' : World} {A : Option Addr} {xs : List Int}
theorem Ints.at_ {k:Nat}(h:Ints w A xs)(hk:k < xs.length):∃ b o,A=some ⟨b,o,none⟩∧b < w.heap.size∧w.cell? ⟨b,o+k,none⟩=some (.int .i64 xs[k]):=by
 obtain⟨ad,e,hb,hc⟩:=h.1.2 (by omega);have h0:=hc 0 (.int .i64 xs[0]) (by simp);have hk':=hc k (.int .i64 xs[k]) (by simp[List.getElem?_eq_getElem hk]);obtain⟨b,o,sp⟩:=ad;obtain rfl:=spot_none h0;rw[addr_add] at hk';exact⟨b,o,e,hb,hk'⟩
theorem Ints.le (h:Ints w A xs):xs.length≤9223372036854775807:=h.2
theorem Ints.ext (h:Ints w A xs)(hb:Below w.heap.size w w'):Ints w' A xs:=⟨(Reads.below h.1 hb).more hb.size,h.2⟩
theorem Ints.nil:Ints w A []:=⟨Reads.none_,by simp⟩
end

def ptCells (p:Int × Int):List Value:=[.int .i64 p.1,.int .i64 p.2]
def Pts (w:World)(A:Option Addr)(ps:List (Int × Int)):Prop:=Reads w w.heap.size 2 A ps.length (ps.flatMap ptCells)∧ps.length≤9223372036854775807
theorem flat2:∀ (ps:List (Int × Int))(k:Nat)(hk:k < ps.length),(ps.flatMap ptCells)[2*k]?=some (.int .i64 ps[k].1)∧(ps.flatMap ptCells)[2*k+1]?=some (.int .i64 ps[k].2)
 | p :: ps,0,_=>by simp[ptCells]
 | p :: ps,k+1,hk=>by
  have h:=flat2 ps k (by simpa using hk);have e1:2*(k+1)=(2*k)+1+1:=by omega
  have e2:2*(k+1)+1=(2*k+1)+1+1:=by omega
  simp only[List.flatMap_cons,ptCells,List.cons_append,List.nil_append,e1,List.getElem?_cons_succ,List.getElem_cons_succ];exact h
section
variable {w w' : World} {A : Option Addr} {ps : List (Int × Int)}
theorem Pts.at_ {k:Nat}(h:Pts w A ps)(hk:k < ps.length):∃ b o,A=some ⟨b,o,none⟩∧b < w.heap.size∧w.cell? ⟨b,o+k*2,none⟩=some (.int .i64 ps[k].1)∧w.cell? ⟨b,o+k*2+1,none⟩=some (.int .i64 ps[k].2):=by
 obtain⟨ad,e,hb,hc⟩:=h.1.2 (by omega);obtain⟨f1,f2⟩:=flat2 ps k hk;obtain⟨f0,_⟩:=flat2 ps 0 (by omega);have h0:=hc _ _ f0;obtain⟨b,o,sp⟩:=ad;obtain rfl:=spot_none h0;refine⟨b,o,e,hb,?_,?_⟩
 ·rw[Nat.mul_comm];have:=hc _ _ f1;rwa [addr_add] at this
 ·rw[Nat.mul_comm];have:=hc _ _ f2;rwa [addr_add] at this
theorem Pts.le (h:Pts w A ps):ps.length≤9223372036854775807:=h.2
theorem Pts.ext (h:Pts w A ps)(hb:Below w.heap.size w w'):Pts w' A ps:=⟨(Reads.below h.1 hb).more hb.size,h.2⟩
theorem Pts.drewN (h:Pts w A ps)(n:Nat):Pts (w.drewN n) A ps:=h
theorem Pts.nil:Pts w A []:=⟨Reads.none_,by simp⟩
end

def Qt (w w':World):Prop:=∃ k,w'=w.drewN k
theorem Qt.refl (w:World):Qt w w:=⟨0,rfl⟩
theorem Qt.drewN (w:World)(k:Nat):Qt w (w.drewN k):=⟨k,rfl⟩
theorem Qt.trans {a b c:World}(h:Qt a b)(k:Qt b c):Qt a c:=by
 obtain⟨m,rfl⟩:=h;obtain⟨n,rfl⟩:=k;exact⟨m+n,by rw[World.drewN_drewN]⟩
theorem Qt.below {a b:World}(h:Qt a b)(B:Nat):Below B a b:=by
 obtain⟨k,rfl⟩:=h;exact below_drewN (Below.refl _ _) k
theorem Qt.step {a b:World}(h:Qt a b)(k:Nat):Qt a (b.drewN k):=h.trans (Qt.drewN _ _)
theorem ret_bool {a b:Bool}(h:a=b):Ending.returned (.bool a)=.returned (.bool b):=by rw[h]
theorem ret_int {k:IntKind}{a b:Int}(h:a=b):Ending.returned (.int k a)=.returned (.int k b):=by rw[h]
def ptNe (a b c d:Int):Bool:=!(a == c && b == d)
def ptEq (a b c d:Int):Bool:=a == c && b == d
theorem ptNe_true {p q:Int × Int}(h:ptNe p.1 p.2 q.1 q.2=true):¬ p=q:=by
 rintro rfl;simp[ptNe] at h
theorem ptNe_false {p q:Int × Int}(h:ptNe p.1 p.2 q.1 q.2=false):p=q:=by
 simp[ptNe] at h;exact Prod.ext h.1 h.2
def NewA (B:Nat)(A:Option Addr):Prop:=∀ ad,A=some ad→B≤ad.block
theorem NewA.none_ (B:Nat):NewA B none:=by intro ad h;cases h
theorem NewA.mono {B B':Nat}{A:Option Addr}(h:NewA B A)(hB:B'≤B):NewA B' A:=fun ad e=>Nat.le_trans hB (h ad e)
theorem Reads.set_ne {w:World}{B size n:Nat}{A:Option Addr}{xs:List Value}(h:Reads w B size A n xs){p:Addr}(hne:∀ ad,A=some ad→ad.block≠p.block)(u:Value):Reads (w.setCell p u) B size A n xs:=
 ⟨h.1,fun hn=>by
  obtain⟨ad,e,hb,hc⟩:=h.2 hn;refine⟨ad,e,hb,fun j v hv=>?_⟩;rw[World.cell?_setCell_other w p (ad.add j) u (fun e2=>hne ad e (by rw[e2,block_of_add]))];exact hc j v hv⟩
theorem Reads.size_set {w:World}{size n:Nat}{A:Option Addr}{xs:List Value}{p:Addr}{u:Value}(h:Reads (w.setCell p u) w.heap.size size A n xs):Reads (w.setCell p u) (w.setCell p u).heap.size size A n xs:=h.more (by simp[World.setCell])
section
variable {w w0 : World} {A : Option Addr} {ps : List (Int × Int)} {zs : List Int} {p : Addr}
theorem Pts.set_new (h:Pts w A ps){B:Nat}(hn:NewA B A)(hp:p.block < B)(u:Value):Pts (w.setCell p u) A ps:=
 ⟨(h.1.set_ne (fun ad e=>by have:=hn ad e;omega) u).size_set,h.2⟩
end
def RetPts (ps:List (Int × Int))(w:World)(e:Ending)(w':World):Prop:=∃ A c,e=.returned (.slice A ps.length c)∧Pts w' A ps∧NewA w.heap.size A∧Below w.heap.size w w'
theorem Blk.cell_ {w:World}{g:Nat}{t:TypeId}{cs:Array Value}(h:Blk w g t cs)(i:Nat)(v:Value)(hv:cs[i]?=some v):w.cell? ⟨g,i,none⟩=some v:=(h.cell i).trans hv

def OwnI (e:TypeId)(w:World)(base:Nat)(v:Value)(zs:List Int):Prop:=w.ownsRow base e 1 v zs.length (zs.map (Value.int .i64))
def OwnP (e:TypeId)(w:World)(base:Nat)(v:Value)(ps:List (Int × Int)):Prop:=w.ownsRow base e 2 v ps.length (ps.flatMap ptCells)

theorem own_form {w:World}{base:Nat}{e:TypeId}{size n:Nat}{v:Value}{xs:List Value}(h:w.ownsRow base e size v n xs) :
  ∃ A c,v=.slice A n c∧(Reads w w.heap.size size A n xs∧n≤9223372036854775807)∧NewA base A:=by
 rcases h.2 with ⟨rfl,rfl⟩ | ⟨g,cap,cur,rfl,h2⟩
 ·exact⟨none,0,rfl,⟨Reads.of_own (c:=0) h,by simp⟩,NewA.none_ _⟩
 ·refine⟨_,cap,rfl,⟨Reads.of_own h,?_⟩,?_⟩
  ·have:=h2.2.2.1;have:=h2.2.2.2.1;unfold maxLen at this;omega
  ·intro ad e;injection e with e
   subst e;exact h2.1
section
variable {w w' : World} {e : TypeId} {base : Nat} {v : Value} {zs : List Int} {ps : List (Int × Int)}
theorem OwnI.nil (e:TypeId)(w:World)(base:Nat):OwnI e w base (.slice none 0 0) []:=World.ownsRow_nil _ _ _ _
theorem OwnP.nil (e:TypeId)(w:World)(base:Nat):OwnP e w base (.slice none 0 0) []:=World.ownsRow_nil _ _ _ _
theorem OwnI.ints (h:OwnI e w base v zs):∃ A c,v=.slice A zs.length c∧Ints w A zs∧NewA base A:=own_form h
theorem OwnP.pts (h:OwnP e w base v ps):∃ A c,v=.slice A ps.length c∧Pts w A ps∧NewA base A:=own_form h
theorem OwnP.drewN (h:OwnP e w base v ps)(n:Nat):OwnP e (w.drewN n) base v ps:=h
theorem own_below {size n:Nat}{xs:List Value}(h:w.ownsRow base e size v n xs)(hb:Below w.heap.size w w'):w'.ownsRow base e size v n xs:=by
 obtain⟨h1,h2⟩:=h;refine⟨h1,?_⟩;rcases h2 with h2 | ⟨g,cap,cur,h3,h4,h5,h6⟩
 ·exact .inl h2
 ·refine .inr ⟨g,cap,cur,h3,h4,?_,h6⟩;rw[hb.block g ?_]
  ·exact h5
  ·rcases Nat.lt_or_ge g w.heap.size with hlt | hge
   ·exact hlt
   ·rw[Array.getElem?_eq_none hge] at h5;cases h5
theorem OwnI.ext (h:OwnI e w base v zs)(hb:Below w.heap.size w w'):OwnI e w' base v zs:=own_below h hb
end

theorem wpList_push {P:Program}{wr:World}{ops:Array Oper}{rest:List Oper}{o:Oper}{a:Act}{Q:Exit→Act→World→Prop}(hgd:o.guard=none)(s x:Operand)(t:TypeId)
  (ho:o.op=.call { callee:=.builtin .append,args:=#[s,x],argTypes:=#[t,t] })
  (base:Nat) (e:TypeId) (z:Value) (size bytes:Nat) (ht:P.underlying t=some (.slice e)) (hi:(P.info? e).map (fun i=>(i.zero,i.size,i.bytes))=some (some z,size,bytes))
  (hzs:z.cells.size=size) (hsz:0 < size)
  (v:Value) (n:Nat) (xs:List Value) (hs:a.eval s=v) (hown:wr.ownsRow base e size v n xs)
  (cs:List Value) (hcs:cs.length=size) (hx:a.eval x=.slice (some ⟨wr.heap.size,0,none⟩) 1 1) (h1:∀ u ∈ cs,u.oneCell'=true)
  (h63:n+1≤maxLen) (hbytes:(n+1)*bytes≤140737488355328) (hbase:base≤wr.heap.size)
  (h:∀ v' w',w'.ownsRow base e size v' (n+1) (xs ++ cs)→Below base wr w'→wpList P ops Q rest (a.put o.dst v') w') :
  wpList P ops Q (o :: rest) a (wr.alloc (.cells cs.toArray e)):=by
 obtain⟨i0,hi0,hz0,hz1,hz2⟩:=info_parts hi;refine wpList_append_own _ hgd s x t ho base e i0 z size bytes ht hi0 hz0 hz1 hz2 hzs hsz v n xs hs (hown.alloc _) ⟨wr.heap.size,0,none⟩ 1 1 cs hx (by omega) ?_ h1 h63 hbytes (by simp;omega) ?_
 ·intro j u hu;rw[addr_add];have:(wr.alloc (.cells cs.toArray e)).cell? ⟨wr.heap.size,0+j,none⟩=cs.toArray[0+j]?:=cell_of_row _ _ _ _ _ _ (heap_alloc_new wr _);rw[this];simpa using hu
 ·intro v' w' hown' hg _;refine h v' w' hown' ?_;refine ((Below.refl base wr).alloc hbase _).grown hg (by simp;omega) ?_;intro k hk;rcases hown.2 with ⟨rfl,_⟩ | ⟨g,cap,cur,rfl,h4,_⟩
  ·simp[Value.ownBlock] at hk
  ·simp[Value.ownBlock] at hk;omega
theorem wpList_pushI {P:Program}{wr:World}{ops:Array Oper}{rest:List Oper}{o:Oper}{a:Act}{Q:Exit→Act→World→Prop}(hgd:o.guard=none)(s x:Operand)(t:TypeId)
  (ho:o.op=.call { callee:=.builtin .append,args:=#[s,x],argTypes:=#[t,t] })
  (base:Nat) (e:TypeId) (ht:P.underlying t=some (.slice e)) (hi:(P.info? e).map (fun i=>(i.zero,i.size,i.bytes))=some (some (.int .i64 0),1,8))
  (v:Value) (zs:List Int) (hs:a.eval s=v) (hown:OwnI e wr base v zs)
  (z:Int) (hx:a.eval x=.slice (some ⟨wr.heap.size,0,none⟩) 1 1)
  (hn:zs.length < 1000000000000) (hbase:base≤wr.heap.size)
  (h:∀ v' w',OwnI e w' base v' (zs ++ [z])→Below base wr w'→wpList P ops Q rest (a.put o.dst v') w') :
  wpList P ops Q (o :: rest) a (wr.alloc (.cells #[.int .i64 z] e)):=
 wpList_push hgd s x t ho base e (.int .i64 0) 1 8 ht hi rfl (by decide) v zs.length _ hs hown [.int .i64 z] rfl hx (by simp[Value.oneCell']) (by unfold maxLen;omega) (by omega) hbase
  (fun v' w' h1 h2=>h v' w' (by unfold OwnI;rw[List.length_append,List.map_append];exact h1) h2)
theorem wpList_pushP {P:Program}{wr:World}{ops:Array Oper}{rest:List Oper}{o:Oper}{a:Act}{Q:Exit→Act→World→Prop}(hgd:o.guard=none)(s x:Operand)(t:TypeId)
  (ho:o.op=.call { callee:=.builtin .append,args:=#[s,x],argTypes:=#[t,t] })
  (base:Nat) (e:TypeId) (ht:P.underlying t=some (.slice e)) (hi:(P.info? e).map (fun i=>(i.zero,i.size,i.bytes))=some (some (.agg #[.int .i64 0,.int .i64 0]),2,16))
  (v:Value) (ps:List (Int × Int)) (hs:a.eval s=v) (hown:OwnP e wr base v ps)
  (p q:Int) (hx:a.eval x=.slice (some ⟨wr.heap.size,0,none⟩) 1 1)
  (hn:ps.length < 1000000000000) (hbase:base≤wr.heap.size)
  (h:∀ v' w',OwnP e w' base v' (ps ++ [(p,q)])→Below base wr w'→wpList P ops Q rest (a.put o.dst v') w') :
  wpList P ops Q (o :: rest) a (wr.alloc (.cells #[.int .i64 p,.int .i64 q] e)):=
 wpList_push hgd s x t ho base e _ 2 16 ht hi rfl (by decide) v ps.length _ hs hown [.int .i64 p,.int .i64 q] rfl hx (by simp[Value.oneCell']) (by unfold maxLen;omega) (by omega) hbase
  (fun v' w' h1 h2=>h v' w' (by unfold OwnP;rw[List.length_append,List.flatMap_append];exact h1) h2)
end Go.Proofs.YtcmbdhopmncmnaaGreatDoor
namespace Go.Proofs.YtcmbdhopmncmnaaGreatDoor
set_option linter.unusedSimpArgs false
set_option linter.unusedVariables false

abbrev Nd:=Int × List Int

abbrev St:=List Int × List Nd

end Go.Proofs.YtcmbdhopmncmnaaGreatDoor
namespace Go.Proofs.YtcmbdhopmncmnaaGreatDoor
set_option linter.unusedSimpArgs false
open Go.RowKit Go.Maps
set_option maxRecDepth 100000
set_option linter.unusedVariables false

structure Kept (S:Nat→Prop)(w w':World):Prop where
 below:Below 0 w w'
 block:∀ g,g < w.heap.size→¬ S g→w'.heap[g]?=w.heap[g]?
section
variable {S S' : Nat → Prop} {w w' w'' : World}
theorem Kept.refl (S:Nat→Prop)(w:World):Kept S w w:=⟨Below.refl _ _,fun _ _ _=>rfl⟩
theorem Kept.trans (h:Kept S w w')(k:Kept S w' w''):Kept S w w'':=
 ⟨h.below.trans k.below,fun g hg hs=>(k.block g (Nat.lt_of_lt_of_le hg h.below.size) hs).trans (h.block g hg hs)⟩
theorem Kept.mono (h:Kept S w w')(hs:∀ g,g < w.heap.size→S g→S' g):Kept S' w w':=⟨h.below,fun g hg h'=>h.block g hg fun x=>h' (hs g hg x)⟩
theorem Kept.of_below {B:Nat}(h:Below B w w'):Kept (B≤·) w w':=⟨⟨h.os,h.tape,h.output,h.size,fun k hk=>absurd hk (by omega)⟩,fun g _ hs=>h.block g (by omega)⟩
theorem Kept.of_new (S:Nat→Prop)(h:Below w.heap.size w w'):Kept S w w':=(Kept.of_below h).mono fun g hg hs=>absurd hg (by omega)
theorem Kept.to_below {B:Nat}(h:Kept S w w')(hB:B≤w.heap.size)(hs:∀ g,g < B→¬ S g):Below B w w':=
 ⟨h.below.os,h.below.tape,h.below.output,h.below.size,fun k hk=>h.block k (by omega) (hs k hk)⟩
theorem Kept.drew (h:Kept S w w'):Kept S w w'.drew:=⟨h.below.drew,h.block⟩
theorem Kept.alloc (h:Kept S w w')(o:Obj):Kept S w (w'.alloc o):=
 ⟨h.below.alloc (Nat.zero_le _) o,fun g hg hs=>(Below.heap_alloc w' o g (Nat.lt_of_lt_of_le hg h.below.size)).trans (h.block g hg hs)⟩
theorem Kept.setCell (h:Kept S w w'){p:Addr}(hp:S p.block∨w.heap.size≤p.block)(u:Value):Kept S w (w'.setCell p u):=
 ⟨h.below.setCell (Nat.zero_le _) u,fun g hg hs=>(Below.heap_setCell w' p u g (by rintro rfl;rcases hp with hp | hp;exact hs hp;omega)).trans (h.block g hg hs)⟩
theorem Kept.grown (h:Kept S w w'){row:Option Nat}(hg:w'.grownBy w'' row)(hr:∀ g,row=some g→S g∨w.heap.size≤g):Kept S w w'':=
 ⟨⟨hg.os.trans h.below.os,hg.tape.trans h.below.tape,hg.output.trans h.below.output,Nat.le_trans h.below.size hg.size,fun k hk=>absurd hk (by omega)⟩,
  fun g hl hs=>(hg.block g (Nat.lt_of_lt_of_le hl h.below.size) (fun e=>by rcases hr g e.symm with h1 | h1;exact hs h1;omega)).trans (h.block g hl hs)⟩
theorem Kept.cell (h:Kept S w w'){p:Addr}(hl:p.block < w.heap.size)(hs:¬ S p.block):w'.cell? p=w.cell? p:=World.cell?_of_block (h.block _ hl hs)
theorem Kept.blk (h:Kept S w w'){g:Nat}{t:TypeId}{cs:Array Value}(hb:Blk w g t cs)(hs:¬ S g):Blk w' g t cs:=(h.block g hb.lt hs).trans hb
theorem Kept.own (h:Kept S w w'){base size n:Nat}{e:TypeId}{u:Value}{xs:List Value}(ho:w.ownsRow base e size u n xs)(hs:∀ g,u.ownBlock=some g→¬ S g):w'.ownsRow base e size u n xs:=by
 obtain⟨h1,h2⟩:=ho;refine⟨h1,?_⟩;rcases h2 with h2 | ⟨g,cap,cur,rfl,h4,h5,h6⟩
 ·exact .inl h2
 ·have hl:g < w.heap.size:=by
   rcases Nat.lt_or_ge g w.heap.size with hlt | hge
   ·exact hlt
   ·rw[Array.getElem?_eq_none hge] at h5;cases h5
  exact .inr ⟨g,cap,cur,rfl,h4,by rw[h.block g hl (hs g rfl)];exact h5,h6⟩
theorem own_lt' {base size n:Nat}{e:TypeId}{u:Value}{xs:List Value}(h:w.ownsRow base e size u n xs){g:Nat}(hg:u.ownBlock=some g):g < w.heap.size∧base≤g:=by
 rcases h.2 with ⟨rfl,_⟩ | ⟨g',cap,cur,rfl,h4,h5,_⟩
 ·simp[Value.ownBlock] at hg
 ·simp[Value.ownBlock] at hg;subst hg;refine⟨?_,h4⟩;rcases Nat.lt_or_ge g' w.heap.size with hlt | hge
  ·exact hlt
  ·rw[Array.getElem?_eq_none hge] at h5;cases h5
theorem own_ne {base base' size size' n n':Nat}{e e':TypeId}{u v:Value}{xs ys:List Value}(h:w.ownsRow base e size u n xs)(k:w.ownsRow base' e' size' v n' ys)(hne:e≠e'){g:Nat}(hg:u.ownBlock=some g):v.ownBlock≠some g:=by
 intro hv;rcases h.2 with ⟨rfl,_⟩ | ⟨g1,_,c1,rfl,_,h5,_⟩
 ·simp[Value.ownBlock] at hg
 ·rcases k.2 with ⟨rfl,_⟩ | ⟨g2,_,c2,rfl,_,k5,_⟩
  ·simp[Value.ownBlock] at hv
  ·simp[Value.ownBlock] at hg hv;subst hg hv;rw[h5] at k5;injection k5 with k5
   injection k5 with _ k5
   exact hne k5
theorem own_map_ne {base size n:Nat}{e:TypeId}{u:Value}{xs:List Value}{P:Program}{k:TypeId}{R:Value→Option (DataW Unit × List MemPlace)}{b m:Nat}{D:DataW Unit}
  (h:w.ownsRow base e size u n xs) (hm:w.ownsMap P k R b m D):u.ownBlock≠some b:=by
 intro hv;rcases h.2 with ⟨rfl,_⟩ | ⟨g1,_,c1,rfl,_,h5,_⟩
 ·simp[Value.ownBlock] at hv
 ·simp[Value.ownBlock] at hv;subst hv;obtain⟨es,clock,hb,_⟩:=hm;rw[h5] at hb;injection hb with hb
  cases hb
theorem blk_map_ne {g:Nat}{t:TypeId}{cs:Array Value}{P:Program}{k:TypeId}{R:Value→Option (DataW Unit × List MemPlace)}{b m:Nat}{D:DataW Unit}(h:Blk w g t cs)(hm:w.ownsMap P k R b m D):g≠b:=by
 rintro rfl;obtain⟨es,clock,hb,_⟩:=hm;unfold Blk at h;rw[h] at hb;injection hb with hb
 cases hb
theorem own_blk_ne' {base size n:Nat}{e:TypeId}{u:Value}{xs:List Value}{g:Nat}{t:TypeId}{cs:Array Value}(h:w.ownsRow base e size u n xs)(hb:Blk w g t cs)(hne:e≠t):u.ownBlock≠some g:=by
 intro hv;rcases h.2 with ⟨rfl,_⟩ | ⟨g1,_,c1,rfl,_,h5,_⟩
 ·simp[Value.ownBlock] at hv
 ·simp[Value.ownBlock] at hv;subst hv;unfold Blk at hb;rw[h5] at hb;injection hb with hb
  injection hb with _ hb
  exact hne hb
theorem Kept.map (h:Kept S w w'){P:Program}{k:TypeId}{R:Value→Option (DataW Unit × List MemPlace)}{b n:Nat}{D:DataW Unit}(hm:w.ownsMap P k R b n D)(hs:¬ S b):w'.ownsMap P k R b n D:=by
 have hl:=hm.lt;obtain⟨es,clock,hb,r⟩:=hm;exact⟨es,clock,(h.block b hl hs).trans hb,r⟩
end

theorem below_new (w:World)(o:Obj):Below w.heap.size w (w.alloc o):=(Below.refl _ _).alloc (Nat.le_refl _) _
structure Hd where
 lv:Int
 A:Option Addr
 c:Nat
 zs:List Int
def Hd.cells (h:Hd):List Value:=[.int .i64 h.lv,.slice h.A h.zs.length h.c]
theorem hd2:∀ (hs:List Hd)(k:Nat)(hk:k < hs.length),(hs.flatMap Hd.cells)[2*k]?=some (.int .i64 hs[k].lv)∧(hs.flatMap Hd.cells)[2*k+1]?=some (.slice hs[k].A hs[k].zs.length hs[k].c)
 | p :: ps,0,_=>by simp[Hd.cells]
 | p :: ps,k+1,hk=>by
  have h:=hd2 ps k (by simpa using hk);have e1:2*(k+1)=(2*k)+1+1:=by omega
  have e2:2*(k+1)+1=(2*k+1)+1+1:=by omega
  simp only[List.flatMap_cons,Hd.cells,List.cons_append,List.nil_append,e1,List.getElem?_cons_succ,List.getElem_cons_succ];exact h
theorem own_down {w:World}{base base' size n:Nat}{e:TypeId}{u:Value}{xs:List Value}(h:w.ownsRow base e size u n xs)(hB:base'≤base):w.ownsRow base' e size u n xs:=by
 obtain⟨h1,h2⟩:=h;refine⟨h1,?_⟩;rcases h2 with h2 | ⟨g,cap,cur,h3,h4,h5⟩
 ·exact .inl h2
 ·exact .inr ⟨g,cap,cur,h3,Nat.le_trans hB h4,h5⟩
theorem OwnI.down {I:TypeId}{w:World}{base base':Nat}{v:Value}{zs:List Int}(h:OwnI I w base v zs)(hB:base'≤base):OwnI I w base' v zs:=own_down h hB
section
variable {T I : TypeId} {w w' : World} {base : Nat} {v : Value} {hs : List Hd}
theorem OwnI.reads {A:Option Addr}{n c:Nat}{zs:List Int}(h:OwnI I w base (.slice A n c) zs):Ints w A zs:=by
 obtain⟨A',c',e,hi,_⟩:=h.ints;injection e with e1 e2 e3
 subst e1;exact hi
end

theorem Tryz.law:Keyed Tryz.prog 9:=string_keyed Tryz.underlying9
theorem Tryz.zeroInt (w:World):(zeroValue 3).run Tryz.prog w=.ok (.int .i64 0) w:=by kernel_rfl
theorem Tryz.infoInt:(Tryz.prog.info? 3).map (fun i=>(i.zero,i.size,i.bytes))=some (some (.int .i64 0),1,8):=by kernel_rfl
theorem Tryz.infoPt:(Tryz.prog.info? 43).map (fun i=>(i.zero,i.size,i.bytes))=some (some (.agg #[.int .i64 0,.int .i64 0]),2,16):=by kernel_rfl
theorem Tryz.infoByte:(Tryz.prog.info? 5).map (fun i=>(i.zero,i.size,i.bytes))=some (some (.int .u8 0),1,1):=by kernel_rfl
abbrev MapA (w:World)(M n:Nat)(D:DataW Unit):Prop:=w.ownsMap Tryz.prog 9 (plainElem Tryz.prog 3) M n D
abbrev OwnIA (w:World)(base:Nat)(v:Value)(zs:List Int):Prop:=OwnI 3 w base v zs
end Go.Proofs.YtcmbdhopmncmnaaGreatDoor
