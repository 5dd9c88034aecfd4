/-
  texts Base Ints Own: parts of the proof; conditions stand with each theorem.
-/
import Derived.WalkKit
import Derived.WalkSpells
import Derived.WalkLawsBesides
import Derived.Below
import Derived.Laws.OwnMore
import Derived.Laws.Rows
import Derived.Laws.MakeOwn
import Derived.Laws.Entries
import Derived.Deep.AppendLies
import Derived.Deep.Draws
import Derived.Deep.QuietTactic
import Derived.Deep.OwnRows
import Derived.BigQuiet
import Derived.Maps.AppendAt
import Derived.RegionTactic
import Derived.OwnWalk
import Derived.Lib.Hide
import Derived.IntWalk
namespace Go.Proofs.YtlegfdllipkggaaGreatDoor
section
universe u0 u1 u2 u3 u4 u5 u6 u7
theorem e_8 {α0:Sort u0} {α1:Sort u1} {α2:Sort u2} {α3:Sort u3} {α4:Sort u4} {α5:Sort u5} {α6:Sort u6} {α7:Sort u7}{p:α0→α1→α2→α3→α4→α5→α6→α7→Prop}{a0:α0}{a1:α1}{a2:α2}{a3:α3}{a4:α4}{a5:α5}{a6:α6}{a7:α7}(h:p a0 a1 a2 a3 a4 a5 a6 a7):∃ a0 a1 a2 a3 a4 a5 a6 a7,p a0 a1 a2 a3 a4 a5 a6 a7:=⟨a0,a1,a2,a3,a4,a5,a6,a7,h⟩
theorem e_4 {α0:Sort u0} {α1:Sort u1} {α2:Sort u2} {α3:Sort u3}{p:α0→α1→α2→α3→Prop}{a0:α0}{a1:α1}{a2:α2}{a3:α3}(h:p a0 a1 a2 a3):∃ a0 a1 a2 a3,p a0 a1 a2 a3:=⟨a0,a1,a2,a3,h⟩
theorem e_2 {α0:Sort u0} {α1:Sort u1}{p:α0→α1→Prop}{a0:α0}{a1:α1}(h:p a0 a1):∃ a0 a1,p a0 a1:=⟨a0,a1,h⟩
theorem e_1 {α0:Sort u0}{p:α0→Prop}{a0:α0}(h:p a0):∃ a0,p a0:=⟨a0,h⟩
end
set_option linter.unusedSimpArgs false
open Go.RowKit
set_option linter.unusedVariables false

theorem block_of_add (a:Addr)(n:Nat):(a.add n).block=a.block:=by unfold Addr.add;split <;> rfl
def Reads (w:World)(B size:Nat)(A:Option Addr)(n:Nat)(xs:List Value):Prop:=
 xs.length=n*size∧(0 < n→∃ ad,A=some ad∧ad.block < B∧∀ j u,xs[j]?=some u→w.cell? (ad.add j)=some u)

section
variable {w w' : World} {B B' size n : Nat} {A : Option Addr} {xs : List Value}
theorem Reads.none_:Reads w B size A 0 []:=⟨by simp,fun h=>absurd h (by omega)⟩
theorem Reads.keep (h:Reads w B size A n xs)(hk:∀ p:Addr,p.block < B→w'.cell? p=w.cell? p):Reads w' B size A n xs:=
 ⟨h.1,fun hn=>by
  obtain⟨ad,e,hb,hc⟩:=h.2 hn;exact⟨ad,e,hb,fun j u hu=>(hk _ (by rw[block_of_add];exact hb)).trans (hc j u hu)⟩⟩
theorem Reads.more (h:Reads w B size A n xs)(hB:B≤B'):Reads w B' size A n xs:=
 ⟨h.1,fun hn=>by
  obtain⟨ad,e,hb,hc⟩:=h.2 hn;exact⟨ad,e,by omega,hc⟩⟩
theorem Reads.below (h:Reads w B size A n xs)(hb:Below B w w'):Reads w' B size A n xs:=h.keep fun _ hp=>hb.cell hp
theorem Reads.of_own {base:Nat}{e:TypeId}{c:Nat}(h:w.ownsRow base e size (.slice A n c) n xs):Reads w w.heap.size size A n xs:=by
 refine⟨h.1,fun hn=>?_⟩;obtain⟨g,cap,hv,_,hlt⟩:=h.form hn;have hA:A=some ⟨g,0,none⟩:=by injection hv
 subst hA;exact⟨_,rfl,hlt,h.cells (g:=g) rfl⟩
end

def Blk (w:World)(g:Nat)(t:TypeId)(cs:Array Value):Prop:=w.heap[g]?=some (.cells cs t (0,0))

section
variable {w w' : World} {g : Nat} {t : TypeId} {cs : Array Value}
theorem Blk.lt (h:Blk w g t cs):g < w.heap.size:=by
 rcases Nat.lt_or_ge g w.heap.size with hlt | hge
 ·exact hlt
 ·unfold Blk at h;rw[Array.getElem?_eq_none hge] at h;cases h
theorem Blk.cell (h:Blk w g t cs)(i:Nat):w.cell? ⟨g,i,none⟩=cs[i]?:=cell_of_row w g i cs t (0,0) h
theorem Blk.frozen (h:Blk w g t cs)(i:Nat):w.frozen? ⟨g,i,none⟩=false:=by
 unfold Blk at h;simp[World.frozen?,h]
theorem Blk.new (w:World)(t:TypeId)(cs:Array Value):Blk (w.alloc (.cells cs t)) w.heap.size t cs:=heap_alloc_new w _
theorem Blk.drew (h:Blk w g t cs):Blk w.drew g t cs:=h
theorem Blk.alloc (h:Blk w g t cs)(o:Obj):Blk (w.alloc o) g t cs:=(Below.heap_alloc w o g h.lt).trans h
theorem Blk.set_ (h:Blk w g t cs)(i:Nat)(u:Value):Blk (w.setCell ⟨g,i,none⟩ u) g t (cs.setIfInBounds i u):=by
 unfold Blk at h ⊢;simp[World.setCell,Array.getElem?_modify,h]
theorem Blk.far (h:Blk w g t cs){p:Addr}(hp:g≠p.block)(u:Value):Blk (w.setCell p u) g t cs:=(Below.heap_setCell w p u g hp).trans h
theorem Blk.below {B:Nat}(h:Blk w g t cs)(hb:Below B w w')(hg:g < B):Blk w' g t cs:=(hb.block g hg).trans h
theorem Blk.grown {row:Option Nat}(h:Blk w g t cs)(hb:w.grownBy w' row)(hg:some g≠row):Blk w' g t cs:=(hb.block g h.lt hg).trans h
theorem Blk.ne_ {g':Nat}{t':TypeId}{cs':Array Value}(h:Blk w g t cs)(h':Blk w g' t' cs')(hne:t≠t'):g≠g':=by
 rintro rfl;unfold Blk at h h';rw[h] at h';injection h' with h'
 injection h' with _ ht
 exact hne ht
end


theorem below_drewN {B:Nat}{a w:World}(h:Below B a w)(n:Nat):Below B a (w.drewN n):=⟨h.os,h.tape,h.output,h.size,h.block⟩
end Go.Proofs.YtlegfdllipkggaaGreatDoor
namespace Go.Proofs.YtlegfdllipkggaaGreatDoor
set_option linter.unusedSimpArgs false
set_option linter.unusedVariables false
open Go.RowKit

theorem addr_add (b o i:Nat):(⟨b,o,none⟩:Addr).add i=⟨b,o+i,none⟩:=by
 unfold Addr.add
 split
 ·subst i;rfl
 ·rfl
theorem spot_none {w:World}{b o:Nat}{sp:Option Nat}{u:Value}(h:w.cell? ((⟨b,o,sp⟩:Addr).add 0)=some u):sp=none:=by
 cases sp with
 | none=>rfl
 | some x=>
  simp only[Addr.add,if_pos,World.cell?] at h
  split at h <;> simp at h
def Ints (w:World)(A:Option Addr)(xs:List Int):Prop:=Reads w w.heap.size 1 A xs.length (xs.map (Value.int .i64))∧xs.length≤9223372036854775807

section
variable {w w' : World} {A : Option Addr} {xs : List Int}
theorem Ints.at_ {k:Nat}(h:Ints w A xs)(hk:k < xs.length):∃ b o,A=some ⟨b,o,none⟩∧b < w.heap.size∧w.cell? ⟨b,o+k,none⟩=some (.int .i64 xs[k]):=by
 obtain⟨ad,e,hb,hc⟩:=h.1.2 (by omega);have h0:=hc 0 (.int .i64 xs[0]) (by simp);have hk':=hc k (.int .i64 xs[k]) (by simp[List.getElem?_eq_getElem hk]);obtain⟨b,o,sp⟩:=ad;obtain rfl:=spot_none h0;rw[addr_add] at hk';exact⟨b,o,e,hb,hk'⟩
theorem Ints.le (h:Ints w A xs):xs.length≤9223372036854775807:=h.2
theorem Ints.ext (h:Ints w A xs)(hb:Below w.heap.size w w'):Ints w' A xs:=⟨(Reads.below h.1 hb).more hb.size,h.2⟩
theorem Ints.drewN (h:Ints w A xs)(n:Nat):Ints (w.drewN n) A xs:=h
theorem Ints.nil:Ints w A []:=⟨Reads.none_,by simp⟩
end

def ptCells (p:Int × Int):List Value:=[.int .i64 p.1,.int .i64 p.2]
def Pts (w:World)(A:Option Addr)(ps:List (Int × Int)):Prop:=Reads w w.heap.size 2 A ps.length (ps.flatMap ptCells)∧ps.length≤9223372036854775807
theorem flat2:∀ (ps:List (Int × Int))(k:Nat)(hk:k < ps.length),(ps.flatMap ptCells)[2*k]?=some (.int .i64 ps[k].1)∧(ps.flatMap ptCells)[2*k+1]?=some (.int .i64 ps[k].2)
 | p :: ps,0,_=>by simp[ptCells]
 | p :: ps,k+1,hk=>by
  have h:=flat2 ps k (by simpa using hk);have e1:2*(k+1)=(2*k)+1+1:=by omega
  have e2:2*(k+1)+1=(2*k+1)+1+1:=by omega
  simp only[List.flatMap_cons,ptCells,List.cons_append,List.nil_append,e1,List.getElem?_cons_succ,List.getElem_cons_succ];exact h
section
variable {w w' : World} {A : Option Addr} {ps : List (Int × Int)}
theorem Pts.at_ {k:Nat}(h:Pts w A ps)(hk:k < ps.length):∃ b o,A=some ⟨b,o,none⟩∧b < w.heap.size∧w.cell? ⟨b,o+k*2,none⟩=some (.int .i64 ps[k].1)∧w.cell? ⟨b,o+k*2+1,none⟩=some (.int .i64 ps[k].2):=by
 obtain⟨ad,e,hb,hc⟩:=h.1.2 (by omega);obtain⟨f1,f2⟩:=flat2 ps k hk;obtain⟨f0,_⟩:=flat2 ps 0 (by omega);have h0:=hc _ _ f0;obtain⟨b,o,sp⟩:=ad;obtain rfl:=spot_none h0;refine⟨b,o,e,hb,?_,?_⟩
 ·rw[Nat.mul_comm];have:=hc _ _ f1;rwa [addr_add] at this
 ·rw[Nat.mul_comm];have:=hc _ _ f2;rwa [addr_add] at this
theorem Pts.le (h:Pts w A ps):ps.length≤9223372036854775807:=h.2
theorem Pts.ext (h:Pts w A ps)(hb:Below w.heap.size w w'):Pts w' A ps:=⟨(Reads.below h.1 hb).more hb.size,h.2⟩
theorem Pts.nil:Pts w A []:=⟨Reads.none_,by simp⟩
end

def Qt (w w':World):Prop:=∃ k,w'=w.drewN k
theorem Qt.refl (w:World):Qt w w:=⟨0,rfl⟩
theorem Qt.drewN (w:World)(k:Nat):Qt w (w.drewN k):=⟨k,rfl⟩
theorem Qt.trans {a b c:World}(h:Qt a b)(k:Qt b c):Qt a c:=by
 obtain⟨m,rfl⟩:=h;obtain⟨n,rfl⟩:=k;exact⟨m+n,by rw[World.drewN_drewN]⟩
theorem Qt.step {a b:World}(h:Qt a b)(k:Nat):Qt a (b.drewN k):=h.trans (Qt.drewN _ _)
theorem ret_bool {a b:Bool}(h:a=b):Ending.returned (.bool a)=.returned (.bool b):=by rw[h]
theorem ret_int {k:IntKind}{a b:Int}(h:a=b):Ending.returned (.int k a)=.returned (.int k b):=by rw[h]
def ptNe (a b c d:Int):Bool:=!(a == c && b == d)
def ptEq (a b c d:Int):Bool:=a == c && b == d
theorem ptNe_true {p q:Int × Int}(h:ptNe p.1 p.2 q.1 q.2=true):¬ p=q:=by
 rintro rfl;simp[ptNe] at h
theorem ptNe_false {p q:Int × Int}(h:ptNe p.1 p.2 q.1 q.2=false):p=q:=by
 simp[ptNe] at h;exact Prod.ext h.1 h.2
def NewA (B:Nat)(A:Option Addr):Prop:=∀ ad,A=some ad→B≤ad.block
theorem NewA.none_ (B:Nat):NewA B none:=by intro ad h;cases h
theorem Reads.set_ne {w:World}{B size n:Nat}{A:Option Addr}{xs:List Value}(h:Reads w B size A n xs){p:Addr}(hne:∀ ad,A=some ad→ad.block≠p.block)(u:Value):Reads (w.setCell p u) B size A n xs:=
 ⟨h.1,fun hn=>by
  obtain⟨ad,e,hb,hc⟩:=h.2 hn;refine⟨ad,e,hb,fun j v hv=>?_⟩;rw[World.cell?_setCell_other w p (ad.add j) u (fun e2=>hne ad e (by rw[e2,block_of_add]))];exact hc j v hv⟩
theorem Blk.cell_ {w:World}{g:Nat}{t:TypeId}{cs:Array Value}(h:Blk w g t cs)(i:Nat)(v:Value)(hv:cs[i]?=some v):w.cell? ⟨g,i,none⟩=some v:=(h.cell i).trans hv

def OwnI (e:TypeId)(w:World)(base:Nat)(v:Value)(zs:List Int):Prop:=w.ownsRow base e 1 v zs.length (zs.map (Value.int .i64))
def OwnP (e:TypeId)(w:World)(base:Nat)(v:Value)(ps:List (Int × Int)):Prop:=w.ownsRow base e 2 v ps.length (ps.flatMap ptCells)

theorem own_form {w:World}{base:Nat}{e:TypeId}{size n:Nat}{v:Value}{xs:List Value}(h:w.ownsRow base e size v n xs) :
  ∃ A c,v=.slice A n c∧(Reads w w.heap.size size A n xs∧n≤9223372036854775807)∧NewA base A:=by
 rcases h.2 with ⟨rfl,rfl⟩ | ⟨g,cap,cur,rfl,h2⟩
 ·exact⟨none,0,rfl,⟨Reads.of_own (c:=0) h,by simp⟩,NewA.none_ _⟩
 ·refine⟨_,cap,rfl,⟨Reads.of_own h,?_⟩,?_⟩
  ·have:=h2.2.2.1;have:=h2.2.2.2.1;unfold maxLen at this;omega
  ·intro ad e;injection e with e
   subst e;exact h2.1
section
variable {w w' : World} {e : TypeId} {base : Nat} {v : Value} {zs : List Int} {ps : List (Int × Int)}
theorem OwnI.nil (e:TypeId)(w:World)(base:Nat):OwnI e w base (.slice none 0 0) []:=World.ownsRow_nil _ _ _ _
theorem OwnP.nil (e:TypeId)(w:World)(base:Nat):OwnP e w base (.slice none 0 0) []:=World.ownsRow_nil _ _ _ _
theorem OwnI.ints (h:OwnI e w base v zs):∃ A c,v=.slice A zs.length c∧Ints w A zs∧NewA base A:=own_form h
theorem OwnP.pts (h:OwnP e w base v ps):∃ A c,v=.slice A ps.length c∧Pts w A ps∧NewA base A:=own_form h
theorem own_below {size n:Nat}{xs:List Value}(h:w.ownsRow base e size v n xs)(hb:Below w.heap.size w w'):w'.ownsRow base e size v n xs:=by
 obtain⟨h1,h2⟩:=h;refine⟨h1,?_⟩;rcases h2 with h2 | ⟨g,cap,cur,h3,h4,h5,h6⟩
 ·exact .inl h2
 ·refine .inr ⟨g,cap,cur,h3,h4,?_,h6⟩;rw[hb.block g ?_]
  ·exact h5
  ·rcases Nat.lt_or_ge g w.heap.size with hlt | hge
   ·exact hlt
   ·rw[Array.getElem?_eq_none hge] at h5;cases h5
theorem OwnI.ext (h:OwnI e w base v zs)(hb:Below w.heap.size w w'):OwnI e w' base v zs:=own_below h hb
theorem OwnP.ext (h:OwnP e w base v ps)(hb:Below w.heap.size w w'):OwnP e w' base v ps:=own_below h hb
end

theorem wpList_push {P:Program}{wr:World}{ops:Array Oper}{rest:List Oper}{o:Oper}{a:Act}{Q:Exit→Act→World→Prop}(hgd:o.guard=none)(s x:Operand)(t:TypeId)
  (ho:o.op=.call { callee:=.builtin .append,args:=#[s,x],argTypes:=#[t,t] })
  (base:Nat) (e:TypeId) (z:Value) (size bytes:Nat) (ht:P.underlying t=some (.slice e)) (hi:(P.info? e).map (fun i=>(i.zero,i.size,i.bytes))=some (some z,size,bytes))
  (hzs:z.cells.size=size) (hsz:0 < size)
  (v:Value) (n:Nat) (xs:List Value) (hs:a.eval s=v) (hown:wr.ownsRow base e size v n xs)
  (cs:List Value) (hcs:cs.length=size) (hx:a.eval x=.slice (some ⟨wr.heap.size,0,none⟩) 1 1) (h1:∀ u ∈ cs,u.oneCell'=true)
  (h63:n+1≤maxLen) (hbytes:(n+1)*bytes≤140737488355328) (hbase:base≤wr.heap.size)
  (h:∀ v' w',w'.ownsRow base e size v' (n+1) (xs ++ cs)→Below base wr w'→wpList P ops Q rest (a.put o.dst v') w') :
  wpList P ops Q (o :: rest) a (wr.alloc (.cells cs.toArray e)):=by
 obtain⟨i0,hi0,hz0,hz1,hz2⟩:=info_parts hi;refine wpList_append_own _ hgd s x t ho base e i0 z size bytes ht hi0 hz0 hz1 hz2 hzs hsz v n xs hs (hown.alloc _) ⟨wr.heap.size,0,none⟩ 1 1 cs hx (by omega) ?_ h1 h63 hbytes (by simp;omega) ?_
 ·intro j u hu;rw[addr_add];have:(wr.alloc (.cells cs.toArray e)).cell? ⟨wr.heap.size,0+j,none⟩=cs.toArray[0+j]?:=cell_of_row _ _ _ _ _ _ (heap_alloc_new wr _);rw[this];simpa using hu
 ·intro v' w' hown' hg _;refine h v' w' hown' ?_;refine ((Below.refl base wr).alloc hbase _).grown hg (by simp;omega) ?_;intro k hk;rcases hown.2 with ⟨rfl,_⟩ | ⟨g,cap,cur,rfl,h4,_⟩
  ·simp[Value.ownBlock] at hk
  ·simp[Value.ownBlock] at hk;omega
theorem wpList_pushI {P:Program}{wr:World}{ops:Array Oper}{rest:List Oper}{o:Oper}{a:Act}{Q:Exit→Act→World→Prop}(hgd:o.guard=none)(s x:Operand)(t:TypeId)
  (ho:o.op=.call { callee:=.builtin .append,args:=#[s,x],argTypes:=#[t,t] })
  (base:Nat) (e:TypeId) (ht:P.underlying t=some (.slice e)) (hi:(P.info? e).map (fun i=>(i.zero,i.size,i.bytes))=some (some (.int .i64 0),1,8))
  (v:Value) (zs:List Int) (hs:a.eval s=v) (hown:OwnI e wr base v zs)
  (z:Int) (hx:a.eval x=.slice (some ⟨wr.heap.size,0,none⟩) 1 1)
  (hn:zs.length < 1000000000000) (hbase:base≤wr.heap.size)
  (h:∀ v' w',OwnI e w' base v' (zs ++ [z])→Below base wr w'→wpList P ops Q rest (a.put o.dst v') w') :
  wpList P ops Q (o :: rest) a (wr.alloc (.cells #[.int .i64 z] e)):=
 wpList_push hgd s x t ho base e (.int .i64 0) 1 8 ht hi rfl (by decide) v zs.length _ hs hown [.int .i64 z] rfl hx (by simp[Value.oneCell']) (by unfold maxLen;omega) (by omega) hbase
  (fun v' w' h1 h2=>h v' w' (by unfold OwnI;rw[List.length_append,List.map_append];exact h1) h2)
end Go.Proofs.YtlegfdllipkggaaGreatDoor
