/-
  texts Base Ints Own Builder Cls J Ord Pat: parts of the proof; conditions stand with each theorem.
-/
import Derived.WalkKit
import Derived.WalkSpells
import Derived.WalkLawsBesides
import Derived.Below
import Derived.Laws.OwnMore
import Derived.Laws.Rows
import Derived.Laws.MakeOwn
import Derived.Laws.Entries
import Derived.Deep.AppendLies
import Derived.Deep.Draws
import Derived.Deep.QuietTactic
import Derived.Deep.OwnRows
import Derived.BigQuiet
import Derived.Maps.AppendAt
import Derived.RegionTactic
import Derived.OwnWalk
import Derived.Lib.Hide
import Derived.IntWalk
import Derived.Test.YtcfelnhmifkelaaGreatDoorRows
import Derived.Lib.Strings
import Derived.Lib.Slices
import Derived.Lib.Walk
import Derived.Lib.Builder
import Derived.Lib.AppendStr
import Derived.Lib.UnsafeStr
import Derived.Laws.Externs
import Derived.Test.YtcfelnhmifkelaaGreatDoorVShelf
import Derived.Lib.QuietBelow
import Derived.Deep.RegionWith
import Derived.Deep.Cut
namespace Go.Proofs.YtcfelnhmifkelaaGreatDoor
section
universe u0 u1 u2 u3 u4 u5 u6 u7
theorem e_8 {α0:Sort u0} {α1:Sort u1} {α2:Sort u2} {α3:Sort u3} {α4:Sort u4} {α5:Sort u5} {α6:Sort u6} {α7:Sort u7} {p:α0→α1→α2→α3→α4→α5→α6→α7→Prop}{a0:α0}{a1:α1}{a2:α2}{a3:α3}{a4:α4}{a5:α5}{a6:α6}{a7:α7}(h:p a0 a1 a2 a3 a4 a5 a6 a7):∃ a0 a1 a2 a3 a4 a5 a6 a7,p a0 a1 a2 a3 a4 a5 a6 a7:=⟨a0,a1,a2,a3,a4,a5,a6,a7,h⟩
theorem e_4 {α0:Sort u0} {α1:Sort u1} {α2:Sort u2} {α3:Sort u3} {p:α0→α1→α2→α3→Prop}{a0:α0}{a1:α1}{a2:α2}{a3:α3}(h:p a0 a1 a2 a3):∃ a0 a1 a2 a3,p a0 a1 a2 a3:=⟨a0,a1,a2,a3,h⟩
theorem e_2 {α0:Sort u0} {α1:Sort u1} {p:α0→α1→Prop}{a0:α0}{a1:α1}(h:p a0 a1):∃ a0 a1,p a0 a1:=⟨a0,a1,h⟩
theorem e_1 {α0:Sort u0} {p:α0→Prop}{a0:α0}(h:p a0):∃ a0,p a0:=⟨a0,h⟩
end
set_option linter.unusedSimpArgs false
open Go.RowKit
set_option linter.unusedVariables false

theorem block_of_add (a:Addr)(n:Nat):(a.add n).block=a.block:=by unfold Addr.add;split <;> rfl
def Reads (w:World)(B size:Nat)(A:Option Addr)(n:Nat)(xs:List Value):Prop:=
 xs.length=n*size∧(0 < n→∃ ad,A=some ad∧ad.block < B∧∀ j u,xs[j]?=some u→w.cell? (ad.add j)=some u)

section
variable {w w' : World} {B B' size n : Nat} {A : Option Addr} {xs : List Value}
theorem Reads.none_:Reads w B size A 0 []:=⟨by simp,fun h=>absurd h (by omega)⟩
theorem Reads.keep (h:Reads w B size A n xs)(hk:∀ p:Addr,p.block < B→w'.cell? p=w.cell? p):Reads w' B size A n xs:=
 ⟨h.1,fun hn=>by
  obtain⟨ad,e,hb,hc⟩:=h.2 hn;exact⟨ad,e,hb,fun j u hu=>(hk _ (by rw[block_of_add];exact hb)).trans (hc j u hu)⟩⟩
theorem Reads.more (h:Reads w B size A n xs)(hB:B≤B'):Reads w B' size A n xs:=
 ⟨h.1,fun hn=>by
  obtain⟨ad,e,hb,hc⟩:=h.2 hn;exact⟨ad,e,by omega,hc⟩⟩
theorem Reads.below (h:Reads w B size A n xs)(hb:Below B w w'):Reads w' B size A n xs:=h.keep fun _ hp=>hb.cell hp
theorem Reads.of_own {base:Nat}{e:TypeId}{c:Nat}(h:w.ownsRow base e size (.slice A n c) n xs):Reads w w.heap.size size A n xs:=by
 refine⟨h.1,fun hn=>?_⟩;obtain⟨g,cap,hv,_,hlt⟩:=h.form hn;have hA:A=some ⟨g,0,none⟩:=by injection hv
 subst hA;exact⟨_,rfl,hlt,h.cells (g:=g) rfl⟩
end

def Blk (w:World)(g:Nat)(t:TypeId)(cs:Array Value):Prop:=w.heap[g]?=some (.cells cs t (0,0))

section
variable {w w' : World} {g : Nat} {t : TypeId} {cs : Array Value}
theorem Blk.lt (h:Blk w g t cs):g < w.heap.size:=by
 rcases Nat.lt_or_ge g w.heap.size with hlt | hge
 ·exact hlt
 ·unfold Blk at h;rw[Array.getElem?_eq_none hge] at h;cases h
theorem Blk.cell (h:Blk w g t cs)(i:Nat):w.cell? ⟨g,i,none⟩=cs[i]?:=cell_of_row w g i cs t (0,0) h
theorem Blk.frozen (h:Blk w g t cs)(i:Nat):w.frozen? ⟨g,i,none⟩=false:=by
 unfold Blk at h;simp[World.frozen?,h]
theorem Blk.new (w:World)(t:TypeId)(cs:Array Value):Blk (w.alloc (.cells cs t)) w.heap.size t cs:=heap_alloc_new w _
theorem Blk.drew (h:Blk w g t cs):Blk w.drew g t cs:=h
theorem Blk.drewN (h:Blk w g t cs)(n:Nat):Blk (w.drewN n) g t cs:=h
theorem Blk.alloc (h:Blk w g t cs)(o:Obj):Blk (w.alloc o) g t cs:=(Below.heap_alloc w o g h.lt).trans h
theorem Blk.set_ (h:Blk w g t cs)(i:Nat)(u:Value):Blk (w.setCell ⟨g,i,none⟩ u) g t (cs.setIfInBounds i u):=by
 unfold Blk at h ⊢;simp[World.setCell,Array.getElem?_modify,h]
theorem Blk.far (h:Blk w g t cs){p:Addr}(hp:g≠p.block)(u:Value):Blk (w.setCell p u) g t cs:=(Below.heap_setCell w p u g hp).trans h
theorem Blk.below {B:Nat}(h:Blk w g t cs)(hb:Below B w w')(hg:g < B):Blk w' g t cs:=(hb.block g hg).trans h
theorem Blk.grown {row:Option Nat}(h:Blk w g t cs)(hb:w.grownBy w' row)(hg:some g≠row):Blk w' g t cs:=(hb.block g h.lt hg).trans h
theorem Blk.ne_ {g':Nat}{t':TypeId}{cs':Array Value}(h:Blk w g t cs)(h':Blk w g' t' cs')(hne:t≠t'):g≠g':=by
 rintro rfl;unfold Blk at h h';rw[h] at h';injection h' with h'
 injection h' with _ ht
 exact hne ht
theorem own_blk_ne {base:Nat}{e:TypeId}{size n:Nat}{v:Value}{xs:List Value}(h:w.ownsRow base e size v n xs)(hg:Blk w g t cs)(hne:e≠t):v.ownBlock≠some g:=by
 rcases h.2 with ⟨rfl,_⟩ | ⟨g',cap,cur,rfl,_,hh,_⟩
 ·simp[Value.ownBlock]
 ·intro he;have:g'=g:=by simpa [Value.ownBlock] using he
  subst this;exact Blk.ne_ (t:=e) hh hg hne rfl
end

section
variable {P : Program} (w : World)

theorem run_append_of_nil (base:Nat)(t ty e:TypeId)(i:TypeInfo)(size:Nat)(ht:P.underlying t=some (.slice e)) (hi:P.info? e=some i)
  (v:Value) (n:Nat) (xs:List Value) (hown:w.ownsRow base e size v n xs) (c:Nat):(Builtin.append_ #[t,t] ty #[v,.slice none 0 c]).run P w=.ok v w:=by
 rcases hown.2 with ⟨rfl,rfl⟩ | ⟨g,cap,cur,rfl,_,_,hnc,_⟩
 ·simp[Builtin.append_,run_underlying ht,sizeOf,typeInfo,hi,Builtin.lenOf,Builtin.firstCells]
 ·simp[Builtin.append_,run_underlying ht,sizeOf,typeInfo,hi,Builtin.lenOf,Builtin.firstCells,hnc,storeCells]

theorem run_append_any (base:Nat)(t ty e:TypeId)(i:TypeInfo)(z:Value)(size bytes:Nat)(ht:P.underlying t=some (.slice e)) (hi:P.info? e=some i)(hz:i.zero=some z)
  (hsize:i.size=size) (hby:i.bytes=bytes) (hzs:z.cells.size=size) (hsz:0 < size)
  (v:Value) (n:Nat) (xs:List Value) (hown:w.ownsRow base e size v n xs)
  (B:Nat) (A:Option Addr) (m c:Nat) (news:List Value) (hr:Reads w B size A m news) (h1:∀ u ∈ news,u.oneCell'=true)
  (h63:n+m≤maxLen) (hbytes:(n+m)*bytes≤140737488355328) (hbase:base≤w.heap.size) :
  ∃ v' w',(Builtin.append_ #[t,t] ty #[v,.slice A m c]).run P w=.ok v' w'∧w'.ownsRow base e size v' (n+m) (xs ++ news)∧w.grownBy w' v.ownBlock∧
   (v'.ownBlock=v.ownBlock∨v'.ownBlock=some w.heap.size):=by
 rcases A with _ | ad
 ·have hm:m=0:=by
   rcases Nat.eq_zero_or_pos m with h0 | h0
   ·exact h0
   ·obtain⟨ad,h,_⟩:=hr.2 h0;cases h
  subst hm;have hn:news=[]:=List.eq_nil_of_length_eq_zero (by simpa using hr.1);subst hn;exact⟨v,w,run_append_of_nil w base t ty e i size ht hi v n xs hown c,by simpa using hown,World.grownBy.refl w _,.inl rfl⟩
 ·have hcells:∀ j u,news[j]?=some u→w.cell? (ad.add j)=some u:=by
   intro j u hu;rcases Nat.eq_zero_or_pos m with h0 | h0
   ·subst h0;have hn:news=[]:=List.eq_nil_of_length_eq_zero (by simpa using hr.1);subst hn;simp at hu
   ·obtain⟨ad',h,_,hc⟩:=hr.2 h0;injection h with h
    subst h;exact hc j u hu
  obtain⟨v',w',hrun,h2,h3,_,h5⟩:=run_append_own_at (P:=P) w base t ty e i z size bytes ht hi hz hsize hby hzs hsz v n xs hown ad m c news hr.1 hcells h1 h63 hbytes hbase;exact⟨v',w',hrun,h2,h3,h5⟩

theorem wp_append_any {o:Oper}{a:Act}{K:Act→World→Prop}{Q:Exit→Act→World→Prop}(s x:Operand)(t:TypeId)
  (ho:o.op=.call { callee:=.builtin .append,args:=#[s,x],argTypes:=#[t,t] })
  (base:Nat) (e:TypeId) (i:TypeInfo) (z:Value) (size bytes:Nat) (ht:P.underlying t=some (.slice e)) (hi:P.info? e=some i) (hz:i.zero=some z)
  (hsize:i.size=size) (hby:i.bytes=bytes) (hzs:z.cells.size=size) (hsz:0 < size)
  (v:Value) (n:Nat) (xs:List Value) (hs:a.eval s=v) (hown:w.ownsRow base e size v n xs)
  (B:Nat) (A:Option Addr) (m c:Nat) (news:List Value) (hx:a.eval x=.slice A m c) (hr:Reads w B size A m news) (h1:∀ u ∈ news,u.oneCell'=true)
  (h63:n+m≤maxLen) (hbytes:(n+m)*bytes≤140737488355328) (hbase:base≤w.heap.size)
  (h:∀ v' w',w'.ownsRow base e size v' (n+m) (xs ++ news)→w.grownBy w' v.ownBlock→(v'.ownBlock=v.ownBlock∨v'.ownBlock=some w.heap.size)→K (a.put o.dst v') w'):o.wp P a w K Q:=by
 obtain⟨v',w',hrun,h2,h3,h4⟩:=run_append_any (P:=P) w base t o.type e i z size bytes ht hi hz hsize hby hzs hsz v n xs hown B A m c news hr h1 h63 hbytes hbase;unfold Oper.wp execOp;simp only[ho,resolve,invoke,builtin,Sem.run_bind,Sem.run_pure,Result.andThen_ok,List.map_toArray,List.map_cons,List.map_nil,hs,hx,hrun];exact h v' w' h2 h3 h4

theorem wpList_append_any {ops:Array Oper}{rest:List Oper}{o:Oper}{a:Act}{Q:Exit→Act→World→Prop}(hgd:o.guard=none)(s x:Operand)(t:TypeId)
  (ho:o.op=.call { callee:=.builtin .append,args:=#[s,x],argTypes:=#[t,t] })
  (base:Nat) (e:TypeId) (i:TypeInfo) (z:Value) (size bytes:Nat) (ht:P.underlying t=some (.slice e)) (hi:P.info? e=some i) (hz:i.zero=some z)
  (hsize:i.size=size) (hby:i.bytes=bytes) (hzs:z.cells.size=size) (hsz:0 < size)
  (v:Value) (n:Nat) (xs:List Value) (hs:a.eval s=v) (hown:w.ownsRow base e size v n xs)
  (B:Nat) (A:Option Addr) (m c:Nat) (news:List Value) (hx:a.eval x=.slice A m c) (hr:Reads w B size A m news) (h1:∀ u ∈ news,u.oneCell'=true)
  (h63:n+m≤maxLen) (hbytes:(n+m)*bytes≤140737488355328) (hbase:base≤w.heap.size)
  (h:∀ v' w',w'.ownsRow base e size v' (n+m) (xs ++ news)→w.grownBy w' v.ownBlock→(v'.ownBlock=v.ownBlock∨v'.ownBlock=some w.heap.size)→wpList P ops Q rest (a.put o.dst v') w'):wpList P ops Q (o :: rest) a w:=
 wpList_plain hgd fun _ hK=>wp_append_any w s x t ho base e i z size bytes ht hi hz hsize hby hzs hsz v n xs hs hown B A m c news hx hr h1 h63 hbytes hbase fun v' w' h2 h3 h4=>hK _ _ (h v' w' h2 h3 h4)

end

theorem results_tmp4 {fn:Func}{t u v x:Tmp}(h:fn.results=#[.tmp t,.tmp u,.tmp v,.tmp x])(tmps:Array Value)(P:Program)(w:World) :
  (results fn tmps).run P w=.ok (.tuple #[tmps.getD t undef,tmps.getD u undef,tmps.getD v undef,tmps.getD x undef]) w:=by simp[results,h]
theorem below_drewN {B:Nat}{a w:World}(h:Below B a w)(n:Nat):Below B a (w.drewN n):=⟨h.os,h.tape,h.output,h.size,h.block⟩
theorem only_setCell {a w:World}{g:Nat}(h:a.grownBy w (some g)) {p:Addr}(hp:p.block=g∨a.heap.size≤p.block)(u:Value):a.grownBy (w.setCell p u) (some g):=
 ⟨h.os,h.tape,h.output,by simpa [World.setCell] using h.size,fun i hi hne=>(Below.heap_setCell w p u i (by
  rintro rfl;rcases hp with hp | hp
  ·exact hne (by rw[hp])
  ·omega)).trans (h.block i hi hne)⟩
end Go.Proofs.YtcfelnhmifkelaaGreatDoor
namespace Go.Proofs.YtcfelnhmifkelaaGreatDoor
set_option linter.unusedSimpArgs false
set_option linter.unusedVariables false
open Go.RowKit

theorem addr_add (b o i:Nat):(⟨b,o,none⟩:Addr).add i=⟨b,o+i,none⟩:=by
 unfold Addr.add
 split
 ·subst i;rfl
 ·rfl
theorem spot_none {w:World}{b o:Nat}{sp:Option Nat}{u:Value}(h:w.cell? ((⟨b,o,sp⟩:Addr).add 0)=some u):sp=none:=by
 cases sp with
 | none=>rfl
 | some x=>
  simp only[Addr.add,if_pos,World.cell?] at h
  split at h <;> simp at h
def Ints (w:World)(A:Option Addr)(xs:List Int):Prop:=Reads w w.heap.size 1 A xs.length (xs.map (Value.int .i64))∧xs.length≤9223372036854775807

section
variable {w w' : World} {A : Option Addr} {xs : List Int}
theorem Ints.at_ {k:Nat}(h:Ints w A xs)(hk:k < xs.length):∃ b o,A=some ⟨b,o,none⟩∧b < w.heap.size∧w.cell? ⟨b,o+k,none⟩=some (.int .i64 xs[k]):=by
 obtain⟨ad,e,hb,hc⟩:=h.1.2 (by omega);have h0:=hc 0 (.int .i64 xs[0]) (by simp);have hk':=hc k (.int .i64 xs[k]) (by simp[List.getElem?_eq_getElem hk]);obtain⟨b,o,sp⟩:=ad;obtain rfl:=spot_none h0;rw[addr_add] at hk';exact⟨b,o,e,hb,hk'⟩
theorem Ints.le (h:Ints w A xs):xs.length≤9223372036854775807:=h.2
theorem Ints.ext (h:Ints w A xs)(hb:Below w.heap.size w w'):Ints w' A xs:=⟨(Reads.below h.1 hb).more hb.size,h.2⟩
theorem Ints.drewN (h:Ints w A xs)(n:Nat):Ints (w.drewN n) A xs:=h
theorem Ints.nil:Ints w A []:=⟨Reads.none_,by simp⟩
end

def ptCells (p:Int × Int):List Value:=[.int .i64 p.1,.int .i64 p.2]
def Pts (w:World)(A:Option Addr)(ps:List (Int × Int)):Prop:=Reads w w.heap.size 2 A ps.length (ps.flatMap ptCells)∧ps.length≤9223372036854775807
theorem flat2:∀ (ps:List (Int × Int)) (k:Nat)(hk:k < ps.length),(ps.flatMap ptCells)[2*k]?=some (.int .i64 ps[k].1)∧(ps.flatMap ptCells)[2*k+1]?=some (.int .i64 ps[k].2)
 | p :: ps,0,_=>by simp[ptCells]
 | p :: ps,k+1,hk=>by
  have h:=flat2 ps k (by simpa using hk);have e1:2*(k+1)=(2*k)+1+1:=by omega
  have e2:2*(k+1)+1=(2*k+1)+1+1:=by omega
  simp only[List.flatMap_cons,ptCells,List.cons_append,List.nil_append,e1,List.getElem?_cons_succ,List.getElem_cons_succ];exact h
section
variable {w w' : World} {A : Option Addr} {ps : List (Int × Int)}
theorem Pts.at_ {k:Nat}(h:Pts w A ps)(hk:k < ps.length):∃ b o,A=some ⟨b,o,none⟩∧b < w.heap.size∧w.cell? ⟨b,o+k*2,none⟩=some (.int .i64 ps[k].1)∧w.cell? ⟨b,o+k*2+1,none⟩=some (.int .i64 ps[k].2):=by
 obtain⟨ad,e,hb,hc⟩:=h.1.2 (by omega);obtain⟨f1,f2⟩:=flat2 ps k hk;obtain⟨f0,_⟩:=flat2 ps 0 (by omega);have h0:=hc _ _ f0;obtain⟨b,o,sp⟩:=ad;obtain rfl:=spot_none h0;refine⟨b,o,e,hb,?_,?_⟩
 ·rw[Nat.mul_comm];have:=hc _ _ f1;rwa [addr_add] at this
 ·rw[Nat.mul_comm];have:=hc _ _ f2;rwa [addr_add] at this
theorem Pts.le (h:Pts w A ps):ps.length≤9223372036854775807:=h.2
theorem Pts.ext (h:Pts w A ps)(hb:Below w.heap.size w w'):Pts w' A ps:=⟨(Reads.below h.1 hb).more hb.size,h.2⟩
theorem Pts.nil:Pts w A []:=⟨Reads.none_,by simp⟩
end

def Qt (w w':World):Prop:=∃ k,w'=w.drewN k
theorem Qt.refl (w:World):Qt w w:=⟨0,rfl⟩
theorem Qt.drewN (w:World)(k:Nat):Qt w (w.drewN k):=⟨k,rfl⟩
theorem Qt.trans {a b c:World}(h:Qt a b)(k:Qt b c):Qt a c:=by
 obtain⟨m,rfl⟩:=h;obtain⟨n,rfl⟩:=k;exact⟨m+n,by rw[World.drewN_drewN]⟩
theorem Qt.below {a b:World}(h:Qt a b)(B:Nat):Below B a b:=by
 obtain⟨k,rfl⟩:=h;exact below_drewN (Below.refl _ _) k
theorem Qt.step {a b:World}(h:Qt a b)(k:Nat):Qt a (b.drewN k):=h.trans (Qt.drewN _ _)
theorem ret_bool {a b:Bool}(h:a=b):Ending.returned (.bool a)=.returned (.bool b):=by rw[h]
theorem ret_int {k:IntKind}{a b:Int}(h:a=b):Ending.returned (.int k a)=.returned (.int k b):=by rw[h]
theorem box_cell {w w1:World}{cs:Array Value}{T:TypeId}(hb:Below (w.alloc (.cells cs T)).heap.size (w.alloc (.cells cs T)) w1) (i:Nat)(v:Value)(h:cs[i]?=some v):w1.cell? ⟨w.heap.size,i,none⟩=some v:=by
 rw[hb.cell (by simp),cell_of_row _ _ _ _ _ _ (heap_alloc_new w _),h]
def ptNe (a b c d:Int):Bool:=!(a == c && b == d)
theorem ptNe_true {p q:Int × Int}(h:ptNe p.1 p.2 q.1 q.2=true):¬ p=q:=by
 rintro rfl;simp[ptNe] at h
theorem ptNe_false {p q:Int × Int}(h:ptNe p.1 p.2 q.1 q.2=false):p=q:=by
 simp[ptNe] at h;exact Prod.ext h.1 h.2
def NewA (B:Nat)(A:Option Addr):Prop:=∀ ad,A=some ad→B≤ad.block
theorem NewA.none_ (B:Nat):NewA B none:=by intro ad h;cases h
theorem NewA.mono {B B':Nat}{A:Option Addr}(h:NewA B A)(hB:B'≤B):NewA B' A:=fun ad e=>Nat.le_trans hB (h ad e)
theorem Reads.set_ne {w:World}{B size n:Nat}{A:Option Addr}{xs:List Value}(h:Reads w B size A n xs){p:Addr}(hne:∀ ad,A=some ad→ad.block≠p.block)(u:Value):Reads (w.setCell p u) B size A n xs:=
 ⟨h.1,fun hn=>by
  obtain⟨ad,e,hb,hc⟩:=h.2 hn;refine⟨ad,e,hb,fun j v hv=>?_⟩;rw[World.cell?_setCell_other w p (ad.add j) u (fun e2=>hne ad e (by rw[e2,block_of_add]))];exact hc j v hv⟩
theorem Reads.size_set {w:World}{size n:Nat}{A:Option Addr}{xs:List Value}{p:Addr}{u:Value}(h:Reads (w.setCell p u) w.heap.size size A n xs):Reads (w.setCell p u) (w.setCell p u).heap.size size A n xs:=h.more (by simp[World.setCell])
section
variable {w w0 : World} {A : Option Addr} {ps : List (Int × Int)} {zs : List Int} {p : Addr}
theorem Pts.set_new (h:Pts w A ps){B:Nat}(hn:NewA B A)(hp:p.block < B)(u:Value):Pts (w.setCell p u) A ps:=
 ⟨(h.1.set_ne (fun ad e=>by have:=hn ad e;omega) u).size_set,h.2⟩
theorem Ints.set_new (h:Ints w A zs){B:Nat}(hn:NewA B A)(hp:p.block < B)(u:Value):Ints (w.setCell p u) A zs:=
 ⟨(h.1.set_ne (fun ad e=>by have:=hn ad e;omega) u).size_set,h.2⟩
theorem Pts.set_old (h:Pts w A ps)(h0:Pts w0 A ps)(hp:w0.heap.size≤p.block)(u:Value):Pts (w.setCell p u) A ps:=by
 refine⟨⟨h.1.1,fun hn=>?_⟩,h.2⟩;obtain⟨ad,e,hb,hc⟩:=h.1.2 hn;obtain⟨ad',e',hb',_⟩:=h0.1.2 hn;obtain rfl:ad=ad':=by rw[e] at e';injection e'
 refine⟨ad,e,by simpa [World.setCell] using hb,fun j v hv=>?_⟩;rw[World.cell?_setCell_other w p (ad.add j) u (fun e2=>by have:=block_of_add ad j;rw[← e2] at this;omega)];exact hc j v hv
end
def RetPts (ps:List (Int × Int)) (w:World)(e:Ending)(w':World):Prop:=∃ A c,e=.returned (.slice A ps.length c)∧Pts w' A ps∧NewA w.heap.size A∧Below w.heap.size w w'
def RetIntsB (zs:List Int)(b:Bool)(w:World)(e:Ending)(w':World):Prop:=∃ A c,e=.returned (.tuple #[.slice A zs.length c,.bool b])∧Ints w' A zs∧NewA w.heap.size A∧Below w.heap.size w w'
theorem below_set4 {B b:Nat}{a w:World}(h:Below B a w)(hb:B≤b)(v0 v1 v2 v3:Value):Below B a ((((w.setCell ⟨b,0,none⟩ v0).setCell ⟨b,1,none⟩ v1).setCell ⟨b,2,none⟩ v2).setCell ⟨b,3,none⟩ v3):=
 (((h.setCell (p:=⟨b,0,none⟩) hb v0).setCell (p:=⟨b,1,none⟩) hb v1).setCell (p:=⟨b,2,none⟩) hb v2).setCell (p:=⟨b,3,none⟩) hb v3
theorem Blk.cell_ {w:World}{g:Nat}{t:TypeId}{cs:Array Value}(h:Blk w g t cs)(i:Nat)(v:Value)(hv:cs[i]?=some v):w.cell? ⟨g,i,none⟩=some v:=(h.cell i).trans hv

def OwnI (e:TypeId)(w:World)(base:Nat)(v:Value)(zs:List Int):Prop:=w.ownsRow base e 1 v zs.length (zs.map (Value.int .i64))
def OwnP (e:TypeId)(w:World)(base:Nat)(v:Value)(ps:List (Int × Int)):Prop:=w.ownsRow base e 2 v ps.length (ps.flatMap ptCells)

theorem own_form {w:World}{base:Nat}{e:TypeId}{size n:Nat}{v:Value}{xs:List Value}(h:w.ownsRow base e size v n xs) :
  ∃ A c,v=.slice A n c∧(Reads w w.heap.size size A n xs∧n≤9223372036854775807)∧NewA base A:=by
 rcases h.2 with ⟨rfl,rfl⟩ | ⟨g,cap,cur,rfl,h2⟩
 ·exact⟨none,0,rfl,⟨Reads.of_own (c:=0) h,by simp⟩,NewA.none_ _⟩
 ·refine⟨_,cap,rfl,⟨Reads.of_own h,?_⟩,?_⟩
  ·have:=h2.2.2.1;have:=h2.2.2.2.1;unfold maxLen at this;omega
  ·intro ad e;injection e with e
   subst e;exact h2.1
section
variable {w w' : World} {e : TypeId} {base : Nat} {v : Value} {zs : List Int} {ps : List (Int × Int)}
theorem OwnI.nil (e:TypeId)(w:World)(base:Nat):OwnI e w base (.slice none 0 0) []:=World.ownsRow_nil _ _ _ _
theorem OwnP.nil (e:TypeId)(w:World)(base:Nat):OwnP e w base (.slice none 0 0) []:=World.ownsRow_nil _ _ _ _
theorem OwnI.ints (h:OwnI e w base v zs):∃ A c,v=.slice A zs.length c∧Ints w A zs∧NewA base A:=own_form h
theorem OwnP.pts (h:OwnP e w base v ps):∃ A c,v=.slice A ps.length c∧Pts w A ps∧NewA base A:=own_form h
theorem OwnI.drewN (h:OwnI e w base v zs)(n:Nat):OwnI e (w.drewN n) base v zs:=h
theorem OwnP.drewN (h:OwnP e w base v ps)(n:Nat):OwnP e (w.drewN n) base v ps:=h
theorem own_below {size n:Nat}{xs:List Value}(h:w.ownsRow base e size v n xs)(hb:Below w.heap.size w w'):w'.ownsRow base e size v n xs:=by
 obtain⟨h1,h2⟩:=h;refine⟨h1,?_⟩;rcases h2 with h2 | ⟨g,cap,cur,h3,h4,h5,h6⟩
 ·exact .inl h2
 ·refine .inr ⟨g,cap,cur,h3,h4,?_,h6⟩;rw[hb.block g ?_]
  ·exact h5
  ·rcases Nat.lt_or_ge g w.heap.size with hlt | hge
   ·exact hlt
   ·rw[Array.getElem?_eq_none hge] at h5;cases h5
theorem OwnP.ext (h:OwnP e w base v ps)(hb:Below w.heap.size w w'):OwnP e w' base v ps:=own_below h hb
end

theorem wpList_push {P:Program}{wr:World}{ops:Array Oper}{rest:List Oper}{o:Oper}{a:Act}{Q:Exit→Act→World→Prop}(hgd:o.guard=none)(s x:Operand)(t:TypeId)
  (ho:o.op=.call { callee:=.builtin .append,args:=#[s,x],argTypes:=#[t,t] })
  (base:Nat) (e:TypeId) (z:Value) (size bytes:Nat) (ht:P.underlying t=some (.slice e)) (hi:(P.info? e).map (fun i=>(i.zero,i.size,i.bytes))=some (some z,size,bytes))
  (hzs:z.cells.size=size) (hsz:0 < size)
  (v:Value) (n:Nat) (xs:List Value) (hs:a.eval s=v) (hown:wr.ownsRow base e size v n xs)
  (cs:List Value) (hcs:cs.length=size) (hx:a.eval x=.slice (some ⟨wr.heap.size,0,none⟩) 1 1) (h1:∀ u ∈ cs,u.oneCell'=true)
  (h63:n+1≤maxLen) (hbytes:(n+1)*bytes≤140737488355328) (hbase:base≤wr.heap.size)
  (h:∀ v' w',w'.ownsRow base e size v' (n+1) (xs ++ cs)→Below base wr w'→wpList P ops Q rest (a.put o.dst v') w') :
  wpList P ops Q (o :: rest) a (wr.alloc (.cells cs.toArray e)):=by
 obtain⟨i0,hi0,hz0,hz1,hz2⟩:=info_parts hi;refine wpList_append_own _ hgd s x t ho base e i0 z size bytes ht hi0 hz0 hz1 hz2 hzs hsz v n xs hs (hown.alloc _) ⟨wr.heap.size,0,none⟩ 1 1 cs hx (by omega) ?_ h1 h63 hbytes (by simp;omega) ?_
 ·intro j u hu;rw[addr_add];have:(wr.alloc (.cells cs.toArray e)).cell? ⟨wr.heap.size,0+j,none⟩=cs.toArray[0+j]?:=cell_of_row _ _ _ _ _ _ (heap_alloc_new wr _);rw[this];simpa using hu
 ·intro v' w' hown' hg _;refine h v' w' hown' ?_;refine ((Below.refl base wr).alloc hbase _).grown hg (by simp;omega) ?_;intro k hk;rcases hown.2 with ⟨rfl,_⟩ | ⟨g,cap,cur,rfl,h4,_⟩
  ·simp[Value.ownBlock] at hk
  ·simp[Value.ownBlock] at hk;omega
theorem wpList_pushI {P:Program}{wr:World}{ops:Array Oper}{rest:List Oper}{o:Oper}{a:Act}{Q:Exit→Act→World→Prop}(hgd:o.guard=none)(s x:Operand)(t:TypeId)
  (ho:o.op=.call { callee:=.builtin .append,args:=#[s,x],argTypes:=#[t,t] })
  (base:Nat) (e:TypeId) (ht:P.underlying t=some (.slice e)) (hi:(P.info? e).map (fun i=>(i.zero,i.size,i.bytes))=some (some (.int .i64 0),1,8))
  (v:Value) (zs:List Int) (hs:a.eval s=v) (hown:OwnI e wr base v zs)
  (z:Int) (hx:a.eval x=.slice (some ⟨wr.heap.size,0,none⟩) 1 1)
  (hn:zs.length < 4294967296) (hbase:base≤wr.heap.size)
  (h:∀ v' w',OwnI e w' base v' (zs ++ [z])→Below base wr w'→wpList P ops Q rest (a.put o.dst v') w') :
  wpList P ops Q (o :: rest) a (wr.alloc (.cells #[.int .i64 z] e)):=
 wpList_push hgd s x t ho base e (.int .i64 0) 1 8 ht hi rfl (by decide) v zs.length _ hs hown [.int .i64 z] rfl hx (by simp[Value.oneCell']) (by unfold maxLen;omega) (by omega) hbase
  (fun v' w' h1 h2=>h v' w' (by unfold OwnI;rw[List.length_append,List.map_append];exact h1) h2)
theorem wpList_pushP {P:Program}{wr:World}{ops:Array Oper}{rest:List Oper}{o:Oper}{a:Act}{Q:Exit→Act→World→Prop}(hgd:o.guard=none)(s x:Operand)(t:TypeId)
  (ho:o.op=.call { callee:=.builtin .append,args:=#[s,x],argTypes:=#[t,t] })
  (base:Nat) (e:TypeId) (ht:P.underlying t=some (.slice e)) (hi:(P.info? e).map (fun i=>(i.zero,i.size,i.bytes))=some (some (.agg #[.int .i64 0,.int .i64 0]),2,16))
  (v:Value) (ps:List (Int × Int)) (hs:a.eval s=v) (hown:OwnP e wr base v ps)
  (p q:Int) (hx:a.eval x=.slice (some ⟨wr.heap.size,0,none⟩) 1 1)
  (hn:ps.length < 4294967296) (hbase:base≤wr.heap.size)
  (h:∀ v' w',OwnP e w' base v' (ps ++ [(p,q)])→Below base wr w'→wpList P ops Q rest (a.put o.dst v') w') :
  wpList P ops Q (o :: rest) a (wr.alloc (.cells #[.int .i64 p,.int .i64 q] e)):=
 wpList_push hgd s x t ho base e _ 2 16 ht hi rfl (by decide) v ps.length _ hs hown [.int .i64 p,.int .i64 q] rfl hx (by simp[Value.oneCell']) (by unfold maxLen;omega) (by omega) hbase
  (fun v' w' h1 h2=>h v' w' (by unfold OwnP;rw[List.length_append,List.flatMap_append];exact h1) h2)
set_option maxRecDepth 100000
theorem Tryz.sizeBuilder:(Tryz.prog.info? 97).map (·.size)=some 2:=by kernel_rfl
theorem Tryz.liesBuilder:liesAt Tryz.prog Tryz.prog.depth 97 (2 / Tryz.prog.cellsOf 97) 0 97 1=true:=by kernel_rfl
theorem Tryz.infoByte:(Tryz.prog.info? 5).map (fun i=>(i.zero,i.size,i.bytes))=some (some (.int .u8 0),1,1):=by kernel_rfl
set_option maxHeartbeats 1000000 in
theorem copyCheck_used (b:Nat)(w:World)(h0:w.cell? ⟨b,0,none⟩=some (.pointer (some ⟨b,0,none⟩))) :
  Calls Tryz.prog 110 #[.pointer (some ⟨b,0,none⟩)] w fun e w'=>e=.returned (.tuple #[])∧w'=w:=by
 obtain⟨j,hj,_⟩:=Option.map_eq_some_iff.1 Tryz.sizeBuilder;go_enter Tryz.func110,Tryz.ntmps110;go_wp2;rw[Lib.run_neq_ptr_same w _ Tryz.underlying94 hj];go_wp2
 go_end0
 exact⟨rfl,rfl⟩
set_option maxHeartbeats 1000000 in
theorem copyCheck_fresh (b:Nat)(w:World)(h0:w.cell? ⟨b,0,none⟩=some (.pointer none)) (hsh:w.shape? b=some (97,2)) (hfz:w.frozen? ⟨b,0,none⟩=false) :
  Calls Tryz.prog 110 #[.pointer (some ⟨b,0,none⟩)] w fun e w'=>e=.returned (.tuple #[])∧w'=w.setCell ⟨b,0,none⟩ (.pointer (some ⟨b,0,none⟩)):=by
 obtain⟨j,hj,hjs⟩:=Option.map_eq_some_iff.1 Tryz.sizeBuilder;go_enter Tryz.func110,Tryz.ntmps110;go_wp2;rw[Lib.run_to_unsafe w ⟨b,0,none⟩ Tryz.underlying94 Tryz.underlying158 hj (by rw[hjs];decide) hsh (Nat.zero_lt_succ 1)];simp only[Result.andThen];rw[Oper.upon_value];go_wp2;rw[run_callFunc_extern Tryz.func140 (by kernel_rfl) (by kernel_rfl) (by kernel_rfl) (e:=Extern.AbiNoEscape.same) (by kernel_rfl)];rw[Lib.run_noEscape];simp only[Result.andThen];rw[Oper.upon_value];go_wp2;rw[Lib.run_from_unsafe w ⟨b,0,none⟩ Tryz.underlying158 Tryz.underlying94 hj hsh Tryz.liesBuilder];simp only[Result.andThen];rw[Oper.upon_value];go_wp2
 go_end0
 exact⟨rfl,rfl⟩
theorem copyCheck_any (B b:Nat)(bs:List Value)(w:World)(h:Lib.IsBuilder 97 5 B b bs w) :
  Calls Tryz.prog 110 #[.pointer (some ⟨b,0,none⟩)] w fun e w'=>e=.returned (.tuple #[])∧(Lib.BuilderAt 97 5 B b (.pointer (some ⟨b,0,none⟩)) bs w'∧Below B w w'):=by
 rcases h with h | h
 ·refine (copyCheck_fresh b w h.cell0 h.shape h.frozen0).mono ?_;rintro e w' ⟨rfl,rfl⟩;exact⟨rfl,h.used _,(Below.refl B w).setCell (p:=⟨b,0,none⟩) h.1 _⟩
 ·refine (copyCheck_used b w h.cell0).mono ?_;rintro e w' ⟨rfl,rfl⟩;exact⟨rfl,h,Below.refl B _⟩
set_option maxHeartbeats 2000000 in
theorem writeByte_any (B b:Nat)(bs:List Value)(c:Int)(w:World)(h:Lib.IsBuilder 97 5 B b bs w)(hlen:bs.length+1≤140737488355328)(hBw:B≤w.heap.size) :
  Calls Tryz.prog 75 #[.pointer (some ⟨b,0,none⟩),.int .u8 c] w fun e w'=>e=.returned .nilIface∧(Lib.BuilderAt 97 5 B b (.pointer (some ⟨b,0,none⟩)) (bs ++ [.int .u8 c]) w'∧Below B w w'):=by
 obtain⟨i0,hi,hz0,hz1,hz2⟩:=info_parts Tryz.infoByte;go_enter Tryz.func75,Tryz.ntmps75;go_wp2_with (go_at_call 110;refine (copyCheck_any B b bs _ h).mono ?_);rintro e w1 ⟨rfl,h1,hb1⟩;obtain⟨hB,v,hbk,hown,hne⟩:=h1;have c0:w1.cell? ⟨b,0,none⟩=some (.pointer (some ⟨b,0,none⟩)):=by rw[Lib.cell_of_heap hbk];rfl
 have c1:w1.cell? ⟨b,1,none⟩=some v:=by rw[Lib.cell_of_heap hbk];rfl
 go_wp2_with (at_builtin;refine wpList_append_own _ rfl _ _ 95 rfl B 5 i0 (.int .u8 0) 1 1 Tryz.underlying95 hi hz0 hz1 hz2 rfl (by decide) _ _ _ rfl (hown.alloc _) ⟨w1.heap.size,0,none⟩ 1 1 [.int .u8 c] rfl rfl ?c1 ?c2 ?c3 ?c4 ?c5 ?_)
 case c1=>
  intro j u hj
  match j,hj with
  | 0,hj=>simp at hj;subst hj;simp[Addr.add]
 case c2=>intro u hu;simp at hu;subst hu;rfl
 case c3=>unfold maxLen;omega
 case c4=>omega
 case c5=>have:=hb1.size;simp;omega
 intro v' w2 hown' hgrow _;have hlt:b < w1.heap.size:=by
  rcases Nat.lt_or_ge b w1.heap.size with h' | h'
  ·exact h'
  ·simp[Array.getElem?_eq_none h'] at hbk
 have hb2:w2.heap[b]?=some (.cells #[.pointer (some ⟨b,0,none⟩),v] 97 (0,0)):=by
  rw[hgrow.block b (by simp;omega) (fun e=>hne e.symm),Lib.alloc_old w1 _ b hlt];exact hbk
 have d0:w2.cell? ⟨b,0,none⟩=some (.pointer (some ⟨b,0,none⟩)):=by rw[Lib.cell_of_heap hb2];rfl
 have d1:w2.cell? ⟨b,1,none⟩=some v:=by rw[Lib.cell_of_heap hb2];rfl
 have f1:w2.frozen? ⟨b,1,none⟩=false:=Lib.frozen_of_heap hb2 1;obtain⟨g,cap,rfl⟩:∃ g cap,v'=.slice (some ⟨g,0,none⟩) (bs.length+1) cap:=by
  rcases hown'.2 with ⟨_,h0⟩ | ⟨g,cap,cur,hv,_⟩
  ·omega
  ·exact⟨g,cap,hv⟩
 go_wp2;go_ret;refine⟨rfl,?_,?_⟩
 ·exact Lib.BuilderAt.put (T:=97) (e:=5) hB hb2 (bs':=bs ++ [.int .u8 c]) (by simpa using hown') (by decide)
 ·exact ((hb1.alloc (by have:=hb1.size;omega) _).grown hgrow (by have:=hb1.size;simp;omega) (fun k hk=>(hown.lt k hk).1)).setCell (p:=⟨b,1,none⟩) hB _
set_option maxHeartbeats 2000000 in
theorem writeString_any (B b:Nat)(bs:List Value)(s:ByteArray)(w:World)(h:Lib.IsBuilder 97 5 B b bs w)(hlen:bs.length+s.size≤140737488355328)(hBw:B≤w.heap.size) :
  Calls Tryz.prog 73 #[.pointer (some ⟨b,0,none⟩),.string s] w fun e w'=>e=.returned (.tuple #[.int .i64 s.size,.nilIface])∧(Lib.BuilderAt 97 5 B b (.pointer (some ⟨b,0,none⟩)) (bs ++ Lib.strCells s) w'∧Below B w w'):=by
 obtain⟨i0,hi,hz0,hz1,hz2⟩:=info_parts Tryz.infoByte;go_enter Tryz.func73,Tryz.ntmps73;go_wp2_with (go_at_call 110;refine (copyCheck_any B b bs _ h).mono ?_);rintro e w1 ⟨rfl,h1,hb1⟩;obtain⟨hB,v,hbk,hown,hne⟩:=h1;have c0:w1.cell? ⟨b,0,none⟩=some (.pointer (some ⟨b,0,none⟩)):=by rw[Lib.cell_of_heap hbk];rfl
 have c1:w1.cell? ⟨b,1,none⟩=some v:=by rw[Lib.cell_of_heap hbk];rfl
 go_wp2_with (at_builtin;refine Lib.wpList_append_own_string _ rfl _ _ 95 9 rfl B 5 i0 Tryz.underlying95 Tryz.underlying9 hi hz0 hz1 hz2 _ _ _ rfl hown s rfl ?c3 ?c4 ?c5 ?_)
 case c3=>unfold maxLen;omega
 case c4=>omega
 case c5=>have:=hb1.size;omega
 intro v' w2 hown' hgrow _;have hlt:b < w1.heap.size:=by
  rcases Nat.lt_or_ge b w1.heap.size with h' | h'
  ·exact h'
  ·simp[Array.getElem?_eq_none h'] at hbk
 have hb2:w2.heap[b]?=some (.cells #[.pointer (some ⟨b,0,none⟩),v] 97 (0,0)):=by
  rw[hgrow.block b hlt (fun e=>hne e.symm)];exact hbk
 have d0:w2.cell? ⟨b,0,none⟩=some (.pointer (some ⟨b,0,none⟩)):=by rw[Lib.cell_of_heap hb2];rfl
 have d1:w2.cell? ⟨b,1,none⟩=some v:=by rw[Lib.cell_of_heap hb2];rfl
 have f1:w2.frozen? ⟨b,1,none⟩=false:=Lib.frozen_of_heap hb2 1;obtain⟨ao,n',cap,rfl⟩:∃ ao n' cap,v'=.slice ao n' cap:=by
  rcases hown'.2 with ⟨hv,_⟩ | ⟨g,cap,cur,hv,_⟩
  ·exact⟨_,_,_,hv⟩
  ·exact⟨_,_,_,hv⟩
 go_wp2;go_ret2;refine⟨rfl,?_,?_⟩
 ·exact Lib.BuilderAt.put (T:=97) (e:=5) hB hb2 (bs':=bs ++ Lib.strCells s) (by simpa [Lib.strCells_length] using hown') (by decide)
 ·exact (hb1.grown hgrow (by have:=hb1.size;omega) (fun k hk=>(hown.lt k hk).1)).setCell (p:=⟨b,1,none⟩) hB _

structure Cel where
 x:Int
 y:Int
 s:Int
 deriving DecidableEq
def celCells (c:Cel):List Value:=[.int .i64 c.x,.int .i64 c.y,.int .i64 c.s]
def Cls (w:World)(A:Option Addr)(ps:List Cel):Prop:=Reads w w.heap.size 3 A ps.length (ps.flatMap celCells)∧ps.length≤9223372036854775807
theorem flat3:∀ (ps:List Cel)(k:Nat)(hk:k < ps.length),(ps.flatMap celCells)[3*k]?=some (.int .i64 ps[k].x)∧(ps.flatMap celCells)[3*k+1]?=some (.int .i64 ps[k].y)∧(ps.flatMap celCells)[3*k+2]?=some (.int .i64 ps[k].s)
 | p :: ps,0,_=>by simp[celCells]
 | p :: ps,k+1,hk=>by
  have h:=flat3 ps k (by simpa using hk);have e1:3*(k+1)=(3*k)+1+1+1:=by omega
  have e2:3*(k+1)+1=(3*k+1)+1+1+1:=by omega
  have e3:3*(k+1)+2=(3*k+2)+1+1+1:=by omega
  simp only[List.flatMap_cons,celCells,List.cons_append,List.nil_append,e1,e2,e3,List.getElem?_cons_succ,List.getElem_cons_succ];exact h
section
variable {w w' : World} {A : Option Addr} {ps : List Cel}
theorem Cls.at_ {k:Nat}(h:Cls w A ps)(hk:k < ps.length):∃ b o,A=some ⟨b,o,none⟩∧b < w.heap.size∧w.cell? ⟨b,o+k*3,none⟩=some (.int .i64 ps[k].x)∧w.cell? ⟨b,o+k*3+1,none⟩=some (.int .i64 ps[k].y)∧w.cell? ⟨b,o+k*3+2,none⟩=some (.int .i64 ps[k].s):=by
 obtain⟨ad,e,hb,hc⟩:=h.1.2 (by omega);obtain⟨f1,f2,f3⟩:=flat3 ps k hk;obtain⟨f0,_⟩:=flat3 ps 0 (by omega);have h0:=hc _ _ f0;obtain⟨b,o,sp⟩:=ad;obtain rfl:=spot_none h0;refine⟨b,o,e,hb,?_,?_,?_⟩
 ·rw[Nat.mul_comm];have:=hc _ _ f1;rwa [addr_add] at this
 ·rw[Nat.mul_comm];have:=hc _ _ f2;rwa [addr_add] at this
 ·rw[Nat.mul_comm];have:=hc _ _ f3;rwa [addr_add] at this
theorem Cls.le (h:Cls w A ps):ps.length≤9223372036854775807:=h.2
theorem Cls.ext (h:Cls w A ps)(hb:Below w.heap.size w w'):Cls w' A ps:=⟨(Reads.below h.1 hb).more hb.size,h.2⟩
theorem Cls.drewN (h:Cls w A ps)(n:Nat):Cls (w.drewN n) A ps:=h
theorem Cls.nil:Cls w A []:=⟨Reads.none_,by simp⟩
end
def OwnC (e:TypeId)(w:World)(base:Nat)(v:Value)(ps:List Cel):Prop:=w.ownsRow base e 3 v ps.length (ps.flatMap celCells)
section
variable {w w' : World} {e : TypeId} {base : Nat} {v : Value} {ps : List Cel}
theorem OwnC.nil (e:TypeId)(w:World)(base:Nat):OwnC e w base (.slice none 0 0) []:=World.ownsRow_nil _ _ _ _
theorem OwnC.cls (h:OwnC e w base v ps):∃ A c,v=.slice A ps.length c∧Cls w A ps∧NewA base A:=own_form h
theorem OwnC.ext (h:OwnC e w base v ps)(hb:Below w.heap.size w w'):OwnC e w' base v ps:=own_below h hb
end
theorem wpList_pushC {P:Program}{wr:World}{ops:Array Oper}{rest:List Oper}{o:Oper}{a:Act}{Q:Exit→Act→World→Prop}(hgd:o.guard=none)(s x:Operand)(t:TypeId)
  (ho:o.op=.call { callee:=.builtin .append,args:=#[s,x],argTypes:=#[t,t] })
  (base:Nat) (e:TypeId) (ht:P.underlying t=some (.slice e)) (hi:(P.info? e).map (fun i=>(i.zero,i.size,i.bytes))=some (some (.agg #[.int .i64 0,.int .i64 0,.int .i64 0]),3,24))
  (v:Value) (ps:List Cel) (hs:a.eval s=v) (hown:OwnC e wr base v ps)
  (p q r:Int) (hx:a.eval x=.slice (some ⟨wr.heap.size,0,none⟩) 1 1)
  (hn:ps.length < 4294967296) (hbase:base≤wr.heap.size)
  (h:∀ v' w',OwnC e w' base v' (ps ++ [⟨p,q,r⟩])→Below base wr w'→wpList P ops Q rest (a.put o.dst v') w') :
  wpList P ops Q (o :: rest) a (wr.alloc (.cells #[.int .i64 p,.int .i64 q,.int .i64 r] e)):=
 wpList_push hgd s x t ho base e _ 3 24 ht hi rfl (by decide) v ps.length _ hs hown [.int .i64 p,.int .i64 q,.int .i64 r] rfl hx (by simp[Value.oneCell']) (by unfold maxLen;omega) (by omega) hbase
  (fun v' w' h1 h2=>h v' w' (by unfold OwnC;rw[List.length_append,List.flatMap_append];exact h1) h2)
end Go.Proofs.YtcfelnhmifkelaaGreatDoor
namespace Go.Proofs.YtcfelnhmifkelaaGreatDoor
open Lib(hid)
set_option linter.unusedSimpArgs false
open Go.RowKit
set_option maxRecDepth 100000
set_option linter.unusedVariables false

def OnlyN (K:Act→World→Prop):Exit→Act→World→Prop
 | .normal,a,w=>K a w
 | _,_,_=>False
theorem OnlyN.not_lets {K:Act→World→Prop}:¬ LetsOut (OnlyN K):=fun ⟨_,_,h⟩=>h
theorem oper_only {P:Program}{o:Oper}{a:Act}{w:World}{K:Act→World→Prop}{Q:Exit→Act→World→Prop}(hh:o.wp P a w K (OnlyN K)):o.wp P a w K Q:=by
 unfold Oper.wp at *;generalize (execOp a.eval o).run P w=r at *;cases r with
 | ok n w'=>
  cases n <;> simp only[Oper.upon] at hh ⊢ <;>
   first
    | exact hh
    | exact Calls.mono hh (fun e w'' he=>by cases e <;> first | exact he | exact (OnlyN.not_lets he).elim | exact (he:False).elim)
 | halt x w'=>cases x <;> simp only[Oper.upon] at hh ⊢ <;> first | exact hh | exact (hh:False).elim
theorem wpOp_of_list {P:Program}{ops:Array Oper}{i:Nat}{o:Oper}{a:Act}{w:World}{K:Act→World→Prop}{Q:Exit→Act→World→Prop}(ho:ops[i]?=some o)
  (h:wpList P ops (OnlyN K) [o] a w):wpOp P ops Q i K a w:=by
 unfold wpOp;rw[ho];simp only;unfold wpList at h
 split
 ·rename_i hw;rw[if_pos hw] at h;rcases h with h | h
  ·exact Or.inl (oper_only h)
  ·exact (OnlyN.not_lets h.2).elim
 ·rename_i hw;rw[if_neg hw] at h;exact h
theorem filter_len_le {α:Type} {p q:α→Bool}:∀ l:List α,(∀ x ∈ l,p x=true→q x=true)→(l.filter p).length≤(l.filter q).length
 | [],_=>Nat.le_refl _
 | x :: l,h=>by
  have ih:=filter_len_le l fun y hy=>h y (List.mem_cons_of_mem _ hy);cases hp:p x
  ·cases hq:q x <;> simp[hp,hq] <;> omega
  ·simp[hp,h x List.mem_cons_self hp];exact ih
theorem filter_len_lt {α:Type} {p q:α→Bool}{i:α}:∀ l:List α,(∀ x ∈ l,p x=true→q x=true)→i ∈ l→p i=false→q i=true→(l.filter p).length < (l.filter q).length
 | [],_,hi,_,_=>by simp at hi
 | x :: l,h,hi,hp,hq=>by
  rcases List.mem_cons.1 hi with rfl | hi
  ·have:=filter_len_le l fun y hy=>h y (List.mem_cons_of_mem _ hy);simp[hp,hq];omega
  ·have ih:=filter_len_lt l (fun y hy=>h y (List.mem_cons_of_mem _ hy)) hi hp hq;cases hpx:p x
   ·cases hqx:q x <;> simp[hpx,hqx] <;> omega
   ·simp[hpx,h x List.mem_cons_self hpx];exact ih
def leftIn (ops:Array Oper)(listed:Array Bool):Nat:=((List.range ops.size).filter fun i=>!listed.getD i true).length
theorem leftIn_set {ops:Array Oper}{listed:Array Bool}{i:Nat}(hi:i < ops.size)(h:listed.getD i true=false):leftIn ops (listed.setIfInBounds i true) < leftIn ops listed:=by
 refine filter_len_lt (i:=i) _ (fun x _ hx=>?_) (by simpa using hi) ?_ (by rw[h];rfl)
 ·by_cases hxi:i=x
  ·subst hxi;rw[h];rfl
  ·rwa [getD_set_ne true hxi] at hx
 ·have hl:i < listed.size:=by
   rcases Nat.lt_or_ge i listed.size with h' | h'
   ·exact h'
   ·simp[Array.getElem?_eq_none h'] at h
  simp[hl]
theorem ready_nil {md:Region.Mode}{ops:Array Oper}{listed:Array Bool}(h:leftIn ops listed=0):Region.ready md ops listed=[]:=by
 apply List.eq_nil_iff_forall_not_mem.2;intro j hj;obtain⟨h0,o,ho,-⟩:=mem_ready.1 hj;have hlt:j < ops.size:=(Array.getElem?_eq_some_iff.1 ho).1;have hn:((List.range ops.size).filter fun i=>!listed.getD i true)=[]:=List.length_eq_zero_iff.1 h;have:j ∈ ((List.range ops.size).filter fun i=>!listed.getD i true):=by
  rw[List.mem_filter];exact⟨by simpa using hlt,by rw[h0];rfl⟩
 rw[hn] at this;cases this
theorem wpAny_J {P:Program}{md:Region.Mode}{ops:Array Oper}{Q:Exit→Act→World→Prop}(J:Array Bool→Act→World→Prop)
  (hstep:∀ i listed a w,i ∈ Region.ready md ops listed→J listed a w→wpOp P ops Q i (J (listed.setIfInBounds i true)) a w)
  (hdone:∀ listed a w,Region.ready md ops listed=[]→J listed a w→Q .normal a w) :
  ∀ fuel listed a w,leftIn ops listed≤fuel→J listed a w→wpAny P md ops Q fuel listed a w
 | 0,listed,a,w,hl,hJ=>by
  have hr:=ready_nil (md:=md) (Nat.le_zero.1 hl);exact⟨hr,hdone _ _ _ hr hJ⟩
 | fuel+1,listed,a,w,hl,hJ=>by
  refine⟨fun hr=>hdone _ _ _ hr hJ,fun i hi=>?_⟩;obtain⟨h0,o,ho,-⟩:=mem_ready.1 hi;have hlt:i < ops.size:=(Array.getElem?_eq_some_iff.1 ho).1;have hs:=leftIn_set (ops:=ops) hlt h0;exact wpOp_mono (fun a' w' h'=>wpAny_J J hstep hdone fuel _ a' w' (by omega) h') (hstep i listed a w hi hJ)
theorem leftIn_le (ops:Array Oper)(listed:Array Bool):leftIn ops listed≤ops.size:=by
 unfold leftIn;refine Nat.le_trans (List.length_filter_le _ _) ?_
 simp
theorem wp_region_J {P:Program}{id:Nat}{ops:Array Oper}{Q:Exit→Act→World→Prop}{a:Act}{w:World}(hm:P.follows .mixedOrders=true)(J:Array Bool→Act→World→Prop)
  (h0:J (Array.replicate ops.size false) a w.drew)
  (hstep:∀ i listed a w,i ∈ Region.ready .any ops listed→J listed a w→wpOp P ops Q i (J (listed.setIfInBounds i true)) a w)
  (hdone:∀ listed a w,Region.ready .any ops listed=[]→J listed a w→Q .normal a w) :
  (Code.region id ops true).wp P Q a w:=
 wp_region_any hm (wpAny_J J hstep hdone _ _ _ _ (leftIn_le _ _) h0)
theorem OnlyN.mk {K:Act→World→Prop}{a:Act}{w:World}(h:K a w):OnlyN K .normal a w:=h
theorem wpOp_hidden {P:Program}{ops:Array Oper}{i:Nat}{o:Oper}{a:Act}{w:World}{J:Act→World→Prop}{Q:Exit→Act→World→Prop}(ho:ops[i]?=some o)
  (h:∀ K:Act→World→Prop,Hid (∀ a w,J a w→K a w)→wpList P ops (OnlyN K) [o] a w):wpOp P ops Q i J a w:=wpOp_of_list ho (h J (hid fun _ _ x=>x))

theorem below_new (w:World)(o:Obj):Below w.heap.size w (w.alloc o):=(Below.refl _ w).alloc (Nat.le_refl _) o
def placeB (x y:Int):Bool:=decide (-1048576≤x) && decide (x≤1048576) && decide (-1048576≤y) && decide (y≤1048576)
def befB (a b:Cel):Bool:=decide (a.y < b.y) || (a.y == b.y && decide (a.x < b.x))
def ptV (x y:Int):Value:=.agg #[.int .i64 x,.int .i64 y]
def celV (c:Cel):Value:=.agg #[.int .i64 c.x,.int .i64 c.y,.int .i64 c.s]
def ordP (x y x' y':Int):Int:=if Lib.compareInt y y'≠0 then Lib.compareInt y y' else Lib.compareInt x x'
def ordC (a b:Cel):Int:=ordP a.x a.y b.x b.y
theorem ord_bef (a b:Cel):decide (0≤ordC a b) = !befB a b:=by
 unfold ordC ordP befB Lib.compareInt;by_cases h1:a.y < b.y
 ·simp[h1]
 ·by_cases h2:b.y < a.y
  ·have h3:¬ a.y=b.y:=by omega
   simp[h1,h2,h3]
  ·have h3:a.y=b.y:=by omega
   by_cases h4:a.x < b.x
   ·simp[h3,h4]
   ·by_cases h5:b.x < a.x
    ·simp[h3,h4,h5]
    ·simp[h3,h4,h5]
set_option maxHeartbeats 800000 in
theorem place_any (x y:Int)(w:World):Calls Tryz.prog 93 #[.int .i64 x,.int .i64 y] w fun e w'=>e=.returned (.bool (placeB x y))∧w'=w:=by
 unfold placeB;cases k1:decide (-1048576≤x)
 ·go_enter Tryz.func93,Tryz.ntmps93;go_wp2;go_ret;exact⟨ret_bool (by simp),rfl⟩
 cases k2:decide (x≤1048576)
 ·go_enter Tryz.func93,Tryz.ntmps93;go_wp2;go_ret;exact⟨ret_bool (by simp),rfl⟩
 cases k3:decide (-1048576≤y)
 ·go_enter Tryz.func93,Tryz.ntmps93;go_wp2;go_ret;exact⟨ret_bool (by simp),rfl⟩
 go_enter Tryz.func93,Tryz.ntmps93;go_wp2;go_ret;exact⟨ret_bool (by simp),rfl⟩
set_option maxHeartbeats 800000 in
theorem before_any (a b:Cel)(w:World):Calls Tryz.prog 94 #[celV a,celV b] w fun e w'=>e=.returned (.bool (befB a b))∧Below w.heap.size w w':=by
 unfold celV befB;have hb1:=(below_new w (.cells #[.int .i64 a.x,.int .i64 a.y,.int .i64 a.s] 114))
 have hb2:=hid (hb1.alloc hb1.size (.cells #[.int .i64 b.x,.int .i64 b.y,.int .i64 b.s] 114));clear hb1;cases k1:decide (a.y < b.y)
 ·cases k2:(a.y == b.y)
  ·go_enter Tryz.func94,Tryz.ntmps94;go_wp2;go_ret;exact⟨ret_bool (by simp),hb2.out⟩
  ·go_enter Tryz.func94,Tryz.ntmps94;go_wp2;go_ret;exact⟨ret_bool (by simp),hb2.out⟩
 ·go_enter Tryz.func94,Tryz.ntmps94;go_wp2;go_ret;exact⟨ret_bool (by simp),hb2.out⟩
set_option maxHeartbeats 400000 in
theorem order_any (a b:Int)(w:World):Calls Tryz.prog 129 #[.int .i64 a,.int .i64 b] w fun e w'=>e=.returned (.int .i64 (Lib.compareInt a b))∧w'=w:=by
 unfold Lib.compareInt;by_cases k1:a < b
 ·rw[if_pos k1];go_enter Tryz.func129,Tryz.ntmps129;go_wp2;go_ret;exact⟨rfl,rfl⟩
 ·rw[if_neg k1];by_cases k2:b < a
  ·rw[if_pos k2];go_enter Tryz.func129,Tryz.ntmps129;go_wp2;go_ret;exact⟨rfl,rfl⟩
  ·rw[if_neg k2];go_enter Tryz.func129,Tryz.ntmps129;go_wp2;go_ret;exact⟨rfl,rfl⟩
set_option maxHeartbeats 800000 in
theorem at_any (c:Cel)(w:World):Calls Tryz.prog 90 #[celV c] w fun e w'=>e=.returned (ptV c.x c.y)∧Below w.heap.size w w':=by
 unfold celV ptV;have hb1:=(below_new w (.cells #[.int .i64 c.x,.int .i64 c.y,.int .i64 c.s] 114))
 have hb3:=hid (hb1.alloc hb1.size (.cells #[.int .i64 c.x,.int .i64 c.y] 117));clear hb1;go_enter Tryz.func90,Tryz.ntmps90;go_wp2;refine bodyPost_ret (v:=.agg #[.int .i64 c.x,.int .i64 c.y]) (by simp[results,Tryz.results90,go_sem]) rfl ?_;exact⟨rfl,hb3.out⟩
theorem placed_eq (x y:Int):(decide (max x y≤1048576) && decide (-1048576≤min x y))=placeB x y:=by
 unfold placeB;rw[Bool.eq_iff_iff];simp only[Bool.and_eq_true,decide_eq_true_eq];omega
set_option maxHeartbeats 800000 in
theorem placed_any (x y:Int)(w:World):Calls Tryz.prog 89 #[ptV x y] w fun e w'=>e=.returned (.bool (placeB x y))∧Below w.heap.size w w':=by
 unfold ptV;rw[← placed_eq];have hb1:=hid (below_new w (.cells #[.int .i64 x,.int .i64 y] 117));cases k1:decide (max x y≤1048576)
 ·go_enter Tryz.func89,Tryz.ntmps89;go_wp2;go_ret;exact⟨ret_bool (by simp),hb1.out⟩
 ·go_enter Tryz.func89,Tryz.ntmps89;go_wp2;go_ret;exact⟨ret_bool (by simp),hb1.out⟩
def orL:List Int→Int
 | []=>0
 | x :: l=>if x=0 then orL l else x
theorem orL_yes {l:List Int}{j:Nat}(h:j < l.length)(hd:l[j]=0):orL (l.drop j)=orL (l.drop (j+1)):=by
 rw[List.drop_eq_getElem_cons h];simp[orL,hd]
theorem orL_no {l:List Int}{j:Nat}(h:j < l.length)(hd:¬ l[j]=0):orL (l.drop j)=l[j]:=by
 rw[List.drop_eq_getElem_cons h];simp[orL,hd]
set_option maxHeartbeats 800000 in
theorem cmpOr_any (A:Option Addr)(c:Nat)(xs:List Int)(w:World)(ha:Ints w A xs):Calls Tryz.prog 165 #[.slice A xs.length c] w fun e w'=>e=.returned (.int .i64 (orL xs))∧w'=w:=by
 have hn:=ha.le;go_enter Tryz.func165,Tryz.ntmps165;go_wp2;go_loopw [8] (fun i wr=>∃ k:Nat,k≤xs.length∧i=.int .i64 k∧wr=w∧Hid (orL xs=orL (xs.drop k))) (fun i _=>xs.length - (intOf i).toNat)
 case atStart=>exact⟨0,Nat.zero_le _,rfl,rfl,hid (by simp)⟩
 case round=>
  obtain⟨k,hk,rfl,rfl,HT⟩:=hrel;by_cases hlt:k < xs.length
  ·obtain⟨b1,o1,rfl,-,hc⟩:=ha.at_ hlt;by_cases he:xs[k]=0
   ·have hd:(xs[k] != 0)=false:=by simp[he]
    have HE:=hid (orL_yes hlt he);clear he;go_wp2;go_roundw
    case rel=>exact⟨k+1,by omega,by go_num,(by first | rfl | trivial),hid (HT.out.trans HE.out)⟩
    case measure=>simp[intOf];omega
   ·have hd:(xs[k] != 0)=true:=by simp[he]
    have HE:=hid (orL_no hlt he);clear he;go_wp2;go_ret;exact⟨ret_int (by rw[HT.out,HE.out]),rfl⟩
  ·have HZ:Hid (orL xs=0):=hid (by
    have:=HT.out;rw[List.drop_of_length_le (by omega)] at this;exact this)
   go_wp2;go_ret;exact⟨ret_int (by rw[HZ.out]),rfl⟩
theorem ints_new (w:World)(zs:List Int)(h0:0 < zs.length)(h1:zs.length≤9223372036854775807):Ints (w.alloc (.cells (zs.map (Value.int .i64)).toArray 3)) (some ⟨w.heap.size,0,none⟩) zs:=by
 refine⟨⟨?_,fun _=>⟨_,rfl,by simp,fun j v hv=>?_⟩⟩,h1⟩
 ·simp
 ·rw[addr_add];have:(w.alloc (.cells (zs.map (Value.int .i64)).toArray 3)).cell? ⟨w.heap.size,0+j,none⟩=(zs.map (Value.int .i64)).toArray[0+j]?:=cell_of_row _ _ _ _ _ _ (heap_alloc_new w _);rw[this];simpa using hv
structure CmpJ (w0:World)(P:Nat)(Q:Nat)(x:Int)(y:Int)(x':Int)(y':Int)(u:Int)(v:Int)(r:Int)(b0 b1 b2 b3 b4 b5 b6 b7 b8 b9 b10 b11 b12:Bool)(v5 v6 v7 v8 v9 v10 v11 v12 v13 v14 v15 v16 v4:Value)(w:World):Prop where
 below:Below w0.heap.size w0 w
 h0:b0=true→v5=.pointer (some ⟨P,1,none⟩)
 h1:b1=true→v6=.int .i64 y
 h2:b2=true→v7=.pointer (some ⟨Q,1,none⟩)
 h3:b3=true→v8=.int .i64 y'
 h4:b4=true→v9=.int .i64 u
 h5:b5=true→v10=.pointer (some ⟨P,0,none⟩)
 h6:b6=true→v11=.int .i64 x
 h7:b7=true→v12=.pointer (some ⟨Q,0,none⟩)
 h8:b8=true→v13=.int .i64 x'
 h9:b9=true→v14=.int .i64 v
 h10:b10=true→∃ g,v15=.slice (some ⟨g,0,none⟩) 2 2∧Ints w (some ⟨g,0,none⟩) [u,v]
 h11:b11=true→v16=.int .i64 r
 h12:b12=true→v4=.int .i64 r
section
variable {w0 : World} {P : Nat} {Q : Nat} {x : Int} {y : Int} {x' : Int} {y' : Int} {u : Int} {v : Int} {r : Int} {b0 b1 b2 b3 b4 b5 b6 b7 b8 b9 b10 b11 b12 : Bool} {v5 v6 v7 v8 v9 v10 v11 v12 v13 v14 v15 v16 v4 : Value} {w w' : World}
theorem CmpJ.world (H:CmpJ w0 P Q x y x' y' u v r b0 b1 b2 b3 b4 b5 b6 b7 b8 b9 b10 b11 b12 v5 v6 v7 v8 v9 v10 v11 v12 v13 v14 v15 v16 v4 w)(hb:Below w.heap.size w w'):CmpJ w0 P Q x y x' y' u v r b0 b1 b2 b3 b4 b5 b6 b7 b8 b9 b10 b11 b12 v5 v6 v7 v8 v9 v10 v11 v12 v13 v14 v15 v16 v4 w':=
 {H with below:=H.below.trans (hb.mono H.below.size),h10:=fun h=>by obtain⟨g,h1,h2⟩:=H.h10 h;exact⟨g,h1,h2.ext hb⟩ }
end
set_option maxHeartbeats 4000000 in
theorem compare_any (x y x' y':Int)(w:World):Calls Tryz.prog 125 #[ptV x y,ptV x' y'] w fun e w'=>e=.returned (.int .i64 (ordP x y x' y'))∧Below w.heap.size w w':=by
 unfold ptV;have hb1:=(below_new w (.cells #[.int .i64 x,.int .i64 y] 117))
 have HB:=hid (hb1.alloc hb1.size (.cells #[.int .i64 x',.int .i64 y'] 117));have p0:=(Blk.new w 117 #[.int .i64 x,.int .i64 y]).alloc (.cells #[.int .i64 x',.int .i64 y'] 117);have q0:=Blk.new (w.alloc (.cells #[.int .i64 x,.int .i64 y] 117)) 117 #[.int .i64 x',.int .i64 y'];rw[show (w.alloc (.cells #[.int .i64 x,.int .i64 y] 117)).heap.size=w.heap.size+1 from by simp] at q0;have P0:=hid (p0.cell_ 0 (.int .i64 x) rfl);have P1:=hid (p0.cell_ 1 (.int .i64 y) rfl);have Q0:=hid (q0.cell_ 0 (.int .i64 x') rfl);have Q1:=hid (q0.cell_ 1 (.int .i64 y') rfl);have HS:Hid (w.heap.size < ((w.alloc (.cells #[.int .i64 x,.int .i64 y] 117)).alloc (.cells #[.int .i64 x',.int .i64 y'] 117)).heap.size∧w.heap.size+1 < ((w.alloc (.cells #[.int .i64 x,.int .i64 y] 117)).alloc (.cells #[.int .i64 x',.int .i64 y'] 117)).heap.size):=hid (by simp;omega);clear hb1 p0 q0;obtain⟨r,hr⟩:∃ r,r=ordP x y x' y':=⟨_,rfl⟩
 have HR:Hid (orL [Lib.compareInt y y',Lib.compareInt x x']=r):=hid (by
  rw[hr];unfold ordP;by_cases h:Lib.compareInt y y'=0
  ·simp[orL,h];intro h2;exact h2.symm
  ·simp[orL,h])
 have HR2:=hid hr;clear hr;have C1:=hid (fun w=>Tryz.cmp_Compare_int y y' w);have C2:=hid (fun w=>Tryz.cmp_Compare_int x x' w);generalize Lib.compareInt y y'=u at *;generalize Lib.compareInt x x'=v at *;go_enter Tryz.func125,Tryz.ntmps125;go_upto_region 1 with fail
 generalize ((w.alloc (.cells #[.int .i64 x,.int .i64 y] 117)).alloc (.cells #[.int .i64 x',.int .i64 y'] 117))=w2 at *;refine wp_region_J (by kernel_rfl) (fun listed act w'=>∃ b0 b1 b2 b3 b4 b5 b6 b7 b8 b9 b10 b11 b12 v5 v6 v7 v8 v9 v10 v11 v12 v13 v14 v15 v16 v4,listed=#[b0,b1,b2,b3,b4,b5,b6,b7,b8,b9,b10,b11,b12]∧act=Act.mk #[.agg #[.int .i64 x,.int .i64 y],.agg #[.int .i64 x',.int .i64 y'],.pointer (some ⟨w.heap.size,0,none⟩),.pointer (some ⟨w.heap.size+1,0,none⟩),v4,v5,v6,v7,v8,v9,v10,v11,v12,v13,v14,v15,v16] []∧CmpJ w2 w.heap.size (w.heap.size+1) x y x' y' u v r b0 b1 b2 b3 b4 b5 b6 b7 b8 b9 b10 b11 b12 v5 v6 v7 v8 v9 v10 v11 v12 v13 v14 v15 v16 v4 w') ?_ ?_ ?_
 ·exact (e_8 (e_8 (e_8 (e_2 ⟨rfl,rfl,(by constructor;(case below=>exact (Below.refl _ w2).drew);all_goals simp)⟩))))
 ·rintro i listed act w' hi ⟨b0,b1,b2,b3,b4,b5,b6,b7,b8,b9,b10,b11,b12,v5,v6,v7,v8,v9,v10,v11,v12,v13,v14,v15,v16,v4,rfl,rfl,H⟩;have hi16:i < 13:=by
   obtain⟨-,o,ho,-⟩:=mem_ready.1 hi;exact (Array.getElem?_eq_some_iff.1 ho).1
  obtain rfl | rfl | rfl | rfl | rfl | rfl | rfl | rfl | rfl | rfl | rfl | rfl | rfl:i=0∨i=1∨i=2∨i=3∨i=4∨i=5∨i=6∨i=7∨i=8∨i=9∨i=10∨i=11∨i=12:=by omega
  all_goals simp[mem_ready,Region.binds] at hi
  ·refine wpOp_hidden rfl fun K hK=>?_;go_wp2;refine OnlyN.mk (hK.out _ _ (e_8 (e_8 (e_8 (e_2 ⟨rfl,rfl,{ H with h0:=fun _=>rfl }⟩)))))
  ·obtain rfl:=H.h0 (by simp[hi]);have cc:w'.cell? ⟨w.heap.size,1,none⟩=_:=(H.below.cell (p:=⟨w.heap.size,1,none⟩) HS.out.1).trans P1.out;refine wpOp_hidden rfl fun K hK=>?_;go_wp2;refine OnlyN.mk (hK.out _ _ (e_8 (e_8 (e_8 (e_2 ⟨rfl,rfl,{ H with h1:=fun _=>rfl }⟩)))))
  ·refine wpOp_hidden rfl fun K hK=>?_;go_wp2;refine OnlyN.mk (hK.out _ _ (e_8 (e_8 (e_8 (e_2 ⟨rfl,rfl,{ H with h2:=fun _=>rfl }⟩)))))
  ·obtain rfl:=H.h2 (by simp[hi]);have cc:w'.cell? ⟨w.heap.size+1,1,none⟩=_:=(H.below.cell (p:=⟨w.heap.size+1,1,none⟩) HS.out.2).trans Q1.out;refine wpOp_hidden rfl fun K hK=>?_;go_wp2;refine OnlyN.mk (hK.out _ _ (e_8 (e_8 (e_8 (e_2 ⟨rfl,rfl,{ H with h3:=fun _=>rfl }⟩)))))
  ·obtain rfl:=H.h1 (by simp[hi]);obtain rfl:=H.h3 (by simp[hi]);refine wpOp_hidden rfl fun K hK=>?_;go_wp2_with fail;refine (C1.out _).mono ?_;rintro e w9 ⟨rfl,hw9⟩;have hw8:=hw9.symm;clear hw9;subst hw8;go_wp2;refine OnlyN.mk (hK.out _ _ (e_8 (e_8 (e_8 (e_2 ⟨rfl,rfl,{ H with h4:=fun _=>rfl }⟩)))))
  ·refine wpOp_hidden rfl fun K hK=>?_;go_wp2;refine OnlyN.mk (hK.out _ _ (e_8 (e_8 (e_8 (e_2 ⟨rfl,rfl,{ H with h5:=fun _=>rfl }⟩)))))
  ·obtain rfl:=H.h5 (by simp[hi]);have cc:w'.cell? ⟨w.heap.size,0,none⟩=_:=(H.below.cell (p:=⟨w.heap.size,0,none⟩) HS.out.1).trans P0.out;refine wpOp_hidden rfl fun K hK=>?_;go_wp2;refine OnlyN.mk (hK.out _ _ (e_8 (e_8 (e_8 (e_2 ⟨rfl,rfl,{ H with h6:=fun _=>rfl }⟩)))))
  ·refine wpOp_hidden rfl fun K hK=>?_;go_wp2;refine OnlyN.mk (hK.out _ _ (e_8 (e_8 (e_8 (e_2 ⟨rfl,rfl,{ H with h7:=fun _=>rfl }⟩)))))
  ·obtain rfl:=H.h7 (by simp[hi]);have cc:w'.cell? ⟨w.heap.size+1,0,none⟩=_:=(H.below.cell (p:=⟨w.heap.size+1,0,none⟩) HS.out.2).trans Q0.out;refine wpOp_hidden rfl fun K hK=>?_;go_wp2;refine OnlyN.mk (hK.out _ _ (e_8 (e_8 (e_8 (e_2 ⟨rfl,rfl,{ H with h8:=fun _=>rfl }⟩)))))
  ·obtain rfl:=H.h6 (by simp[hi]);obtain rfl:=H.h8 (by simp[hi]);refine wpOp_hidden rfl fun K hK=>?_;go_wp2_with fail;refine (C2.out _).mono ?_;rintro e w9 ⟨rfl,hw9⟩;have hw8:=hw9.symm;clear hw9;subst hw8;go_wp2;refine OnlyN.mk (hK.out _ _ (e_8 (e_8 (e_8 (e_2 ⟨rfl,rfl,{ H with h9:=fun _=>rfl }⟩)))))
  ·obtain rfl:=H.h4 (by simp[hi]);obtain rfl:=H.h9 (by simp[hi]);have HA:=hid (H.world (below_new w' (.cells #[.int .i64 u,.int .i64 v] 3)));have HI:=hid (ints_new w' [u,v] (by simp) (by simp));have HH:=hid H;clear H;refine wpOp_hidden rfl fun K hK=>?_;go_wp2;refine OnlyN.mk (hK.out _ _ (e_8 (e_8 (e_8 (e_2 ⟨rfl,rfl,⟨HA.out.below,HA.out.h0,HA.out.h1,HA.out.h2,HA.out.h3,HA.out.h4,HA.out.h5,HA.out.h6,HA.out.h7,HA.out.h8,HA.out.h9,fun _=>⟨w'.heap.size,rfl,HI.out⟩,HA.out.h11,HA.out.h12⟩⟩)))))
  ·obtain⟨g,rfl,hg⟩:=H.h10 (by simp[hi]);have HO:=hid (cmpOr_any (some ⟨g,0,none⟩) 2 [u,v] w' hg);rw[HR.out] at HO;clear hg;refine wpOp_hidden rfl fun K hK=>?_;go_wp2_with fail;refine HO.out.mono ?_;rintro e w9 ⟨rfl,hw9⟩;have hw8:=hw9.symm;clear hw9;subst hw8;go_wp2;refine OnlyN.mk (hK.out _ _ (e_8 (e_8 (e_8 (e_2 ⟨rfl,rfl,{ H with h11:=fun _=>rfl }⟩)))))
  ·obtain rfl:=H.h11 (by simp[hi]);refine wpOp_hidden rfl fun K hK=>?_;go_wp2;refine OnlyN.mk (hK.out _ _ (e_8 (e_8 (e_8 (e_2 ⟨rfl,rfl,{ H with h12:=fun _=>rfl }⟩)))))
 ·rintro listed act w' hr ⟨b0,b1,b2,b3,b4,b5,b6,b7,b8,b9,b10,b11,b12,v5,v6,v7,v8,v9,v10,v11,v12,v13,v14,v15,v16,v4,rfl,rfl,H⟩;have hn:=List.eq_nil_iff_forall_not_mem.1 hr;have r0:=hn 0;simp[mem_ready,Region.binds] at r0;subst r0;have r1:=hn 1;simp[mem_ready,Region.binds] at r1;subst r1;have r2:=hn 2;simp[mem_ready,Region.binds] at r2;subst r2;have r3:=hn 3;simp[mem_ready,Region.binds] at r3;subst r3;have r4:=hn 4;simp[mem_ready,Region.binds] at r4;subst r4;have r5:=hn 5;simp[mem_ready,Region.binds] at r5;subst r5;have r6:=hn 6;simp[mem_ready,Region.binds] at r6;subst r6;have r7:=hn 7;simp[mem_ready,Region.binds] at r7;subst r7;have r8:=hn 8;simp[mem_ready,Region.binds] at r8;subst r8;have r9:=hn 9;simp[mem_ready,Region.binds] at r9;subst r9;have r10:=hn 10;simp[mem_ready,Region.binds] at r10;subst r10;have r11:=hn 11;simp[mem_ready,Region.binds] at r11;subst r11;have r12:=hn 12;simp[mem_ready,Region.binds] at r12;subst r12;obtain rfl:=H.h12 rfl;go_wp2_with fail;go_ret;exact⟨ret_int HR2.out,HB.out.trans (H.below.mono HB.out.size)⟩

set_option maxHeartbeats 2000000 in
theorem order2_any (a b:Cel)(w:World):Calls Tryz.prog 91 #[celV a,celV b] w fun e w'=>e=.returned (.int .i64 (ordC a b))∧Below w.heap.size w w':=by
 obtain⟨w2,hw2⟩:∃ w2,w2=(w.alloc (.cells #[.int .i64 a.x,.int .i64 a.y,.int .i64 a.s] 114)).alloc (.cells #[.int .i64 b.x,.int .i64 b.y,.int .i64 b.s] 114):=⟨_,rfl⟩
 have hb1:=(below_new w (.cells #[.int .i64 a.x,.int .i64 a.y,.int .i64 a.s] 114))
 have hb2:=hb1.alloc hb1.size (.cells #[.int .i64 b.x,.int .i64 b.y,.int .i64 b.s] 114);have p0:=(Blk.new w 114 #[.int .i64 a.x,.int .i64 a.y,.int .i64 a.s]).alloc (.cells #[.int .i64 b.x,.int .i64 b.y,.int .i64 b.s] 114);have q0:=Blk.new (w.alloc (.cells #[.int .i64 a.x,.int .i64 a.y,.int .i64 a.s] 114)) 114 #[.int .i64 b.x,.int .i64 b.y,.int .i64 b.s];rw[show (w.alloc (.cells #[.int .i64 a.x,.int .i64 a.y,.int .i64 a.s] 114)).heap.size=w.heap.size+1 from by simp] at q0;rw[← hw2] at hb2 p0 q0;have HB:=hid hb2;have P0:=cell_regrown (p0.cell_ 0 (.int .i64 a.x) rfl);have P1:=cell_regrown (p0.cell_ 1 (.int .i64 a.y) rfl);have P2:=cell_regrown (p0.cell_ 2 (.int .i64 a.s) rfl);have Q0:=cell_regrown (q0.cell_ 0 (.int .i64 b.x) rfl);have Q1:=cell_regrown (q0.cell_ 1 (.int .i64 b.y) rfl);have Q2:=cell_regrown (q0.cell_ 2 (.int .i64 b.s) rfl);have cA:=fun d os=>Calls.regrown_of (w:=w2) (d:=d) (os:=os) (at_any a _);have cB:=fun d os=>Calls.regrown_of (w:=w2) (d:=d) (os:=os) (at_any b _);have cC:=fun d os=>Calls.regrown_of (w:=w2) (d:=d) (os:=os) (compare_any a.x a.y b.x b.y _);unfold celV ptV at *;unfold ordC;have CA:=hid cA;have CB:=hid cB;have CC:=hid cC;have HW:=hid hw2;clear cA cB cC hb1 hb2 p0 q0 hw2;go_enter Tryz.func91,Tryz.ntmps91;go_upto_region 1 with fail
 rw[← HW.out];refine wp_region_quiet_below (by kernel_rfl) (by kernel_rfl) ?_;repeat (go_big_quiet_step (first | with_reducible exact CA.out _ _ | with_reducible exact CB.out _ _ | with_reducible exact CC.out _ _))
 refine wpQuiet_nil ?_;intro _ hw';obtain⟨⟨dq,osq⟩,hw''⟩:=hw';subst hw'';go_wp2;go_ret;exact⟨rfl,HB.out.trans ((below_regrown w2 dq osq).mono HB.out.size)⟩

def okB (p:Option Cel)(c:Cel):Bool:=placeB c.x c.y && decide (1≤c.s) && decide (c.s < 8) && (match p with | none=>true | some q=>befB q c)
def chainB:Option Cel→List Cel→Bool
 | _,[]=>true
 | p,c :: l=>okB p c && chainB (some c) l
def rightC (ps:List Cel):Bool:=decide (ps.length≤5000) && chainB none ps
def prevC (ps:List Cel):Nat→Option Cel
 | 0=>none
 | k+1=>ps[k]?
theorem chain_yes {ps:List Cel}{k:Nat}(h:k < ps.length)(hd:okB (prevC ps k) ps[k]=true):chainB (prevC ps k) (ps.drop k)=chainB (prevC ps (k+1)) (ps.drop (k+1)):=by
 rw[List.drop_eq_getElem_cons h];show (okB (prevC ps k) ps[k] && chainB (some ps[k]) (ps.drop (k+1)))=chainB ps[k]? (ps.drop (k+1));rw[hd,List.getElem?_eq_getElem h];rfl
theorem chain_no {ps:List Cel}{k:Nat}(h:k < ps.length)(hd:okB (prevC ps k) ps[k]=false):chainB (prevC ps k) (ps.drop k)=false:=by
 rw[List.drop_eq_getElem_cons h];simp[chainB,hd]
set_option maxHeartbeats 8000000 in
theorem right_any (A:Option Addr)(c:Nat)(ps:List Cel)(w:World)(ha:Cls w A ps) :
  Calls Tryz.prog 45 #[.slice A ps.length c] w fun e w'=>e=.returned (.bool (rightC ps))∧Below w.heap.size w w':=by
 have hn:=ha.le;unfold rightC;by_cases hl:ps.length≤5000
 ·have d0:decide ((5000:Int) < (ps.length:Int))=false:=decide_eq_false (by omega);rw[decide_eq_true hl];go_enter Tryz.func45,Tryz.ntmps45;go_wp2;go_loopw [10] (fun i wr=>∃ k:Nat,k≤ps.length∧i=.int .i64 k∧Hid (Below w.heap.size w wr)∧Hid (chainB none ps=chainB (prevC ps k) (ps.drop k))) (fun i _=>ps.length - (intOf i).toNat)
  case atStart=>exact⟨0,Nat.zero_le _,rfl,hid (Below.refl _ _),hid rfl⟩
  case round=>
   obtain⟨k,hk,rfl,HB,HT⟩:=hrel;by_cases hlt:k < ps.length
   ·obtain⟨b1,o1,e1,hb1,hc0,hc1,hc2⟩:=(ha.ext HB.out).at_ hlt;have hc1':wr.cell? ⟨b1,o1+k*3+1,none⟩=some (.int .i64 ps[k].y):=hc1;obtain⟨cx,hcx⟩:∃ cx,cx=ps[k]:=⟨_,rfl⟩
    rw[← hcx] at hc0 hc1 hc2;have HCX:=hid hcx;have HE1:=hid e1;have hnb:=below_new wr (.cells #[.int .i64 cx.x,.int .i64 cx.y,.int .i64 cx.s] 114);obtain⟨wb,hwb⟩:∃ wb,wb=wr.alloc (.cells #[.int .i64 cx.x,.int .i64 cx.y,.int .i64 cx.s] 114):=⟨_,rfl⟩
    have p0:=Blk.new wr 114 #[.int .i64 cx.x,.int .i64 cx.y,.int .i64 cx.s];rw[← hwb] at hnb p0;have P0:=cell_regrown (p0.cell_ 0 (.int .i64 cx.x) rfl);have P1:=cell_regrown (p0.cell_ 1 (.int .i64 cx.y) rfl);have P2:=cell_regrown (p0.cell_ 2 (.int .i64 cx.s) rfl);have HB2:=hid (HB.out.trans (hnb.mono HB.out.size));have HX:=hid (And.intro p0 hnb);have cA:=fun d os=>Calls.regrown_of (w:=wb) (d:=d) (os:=os) (at_any cx _);have cB:=fun d os=>Calls.regrown_of (w:=wb) (d:=d) (os:=os) (placed_any cx.x cx.y _);have HW:=hid hwb;unfold celV ptV at *;clear hcx hc1' p0 hnb hwb;cases k1:placeB cx.x cx.y
    ·rw[k1] at cB;have K1:=hid k1;clear k1;have CA:=hid cA;have CB:=hid cB;clear cA cB;subst e1;go_upto_region 6 with fail
     rw[← HW.out];refine wp_region_quiet_below (by kernel_rfl) (by kernel_rfl) ?_;repeat (go_big_quiet_step (first | with_reducible exact CA.out _ _ | with_reducible exact CB.out _ _))
     refine wpQuiet_nil ?_;intro _ hw';obtain⟨⟨dq,osq⟩,hw''⟩:=hw';subst hw'';have HF:Hid (chainB none ps=false):=hid (by rw[HT.out];exact chain_no hlt (by rw[← HCX.out];unfold okB;rw[K1.out] <;> rfl));go_wp2;go_ret;exact⟨ret_bool (by rw[HF.out] <;> rfl),HB2.out.trans ((below_regrown wb dq osq).mono HB2.out.size)⟩
    rw[k1] at cB;have K1:=hid k1;clear k1;by_cases k2:cx.s < 1
    ·have d2:decide (cx.s < 1)=true:=decide_eq_true k2;have K2:=hid k2;clear k2;have CA:=hid cA;have CB:=hid cB;clear cA cB;subst e1;go_upto_region 6 with fail
     rw[← HW.out];refine wp_region_quiet_below (by kernel_rfl) (by kernel_rfl) ?_;repeat (go_big_quiet_step (first | with_reducible exact CA.out _ _ | with_reducible exact CB.out _ _))
     refine wpQuiet_nil ?_;intro _ hw';obtain⟨⟨dq,osq⟩,hw''⟩:=hw';subst hw'';have HF:Hid (chainB none ps=false):=hid (by rw[HT.out];exact chain_no hlt (by rw[← HCX.out];unfold okB;rw[K1.out,decide_eq_false (by have:=K2.out;omega)] <;> rfl));go_wp2;go_ret;exact⟨ret_bool (by rw[HF.out] <;> rfl),HB2.out.trans ((below_regrown wb dq osq).mono HB2.out.size)⟩
    have d2:decide (cx.s < 1)=false:=decide_eq_false k2;have K2:=hid k2;clear k2;by_cases k3:8≤cx.s
    ·have d3:decide (8≤cx.s)=true:=decide_eq_true k3;have K3:=hid k3;clear k3;have CA:=hid cA;have CB:=hid cB;clear cA cB;subst e1;go_upto_region 6 with fail
     rw[← HW.out];refine wp_region_quiet_below (by kernel_rfl) (by kernel_rfl) ?_;repeat (go_big_quiet_step (first | with_reducible exact CA.out _ _ | with_reducible exact CB.out _ _))
     refine wpQuiet_nil ?_;intro _ hw';obtain⟨⟨dq,osq⟩,hw''⟩:=hw';subst hw'';have HF:Hid (chainB none ps=false):=hid (by rw[HT.out];exact chain_no hlt (by rw[← HCX.out];unfold okB;rw[K1.out,decide_eq_false (p:=cx.s < 8) (by have:=K3.out;omega)] <;> simp));go_wp2;go_ret;exact⟨ret_bool (by rw[HF.out] <;> rfl),HB2.out.trans ((below_regrown wb dq osq).mono HB2.out.size)⟩
    have d3:decide (8≤cx.s)=false:=decide_eq_false k3;have K3:=hid k3;clear k3;cases k with
    | zero=>
     simp only[Nat.zero_mul,Nat.add_zero] at hc0 hc1 hc2;have d4:decide ((0:Int) < ((0:Nat):Int))=false:=by simp
     have CA:=hid cA;have CB:=hid cB;clear cA cB;subst e1;go_upto_region 6 with fail
     rw[← HW.out];refine wp_region_quiet_below (by kernel_rfl) (by kernel_rfl) ?_;repeat (go_big_quiet_step (first | with_reducible exact CA.out _ _ | with_reducible exact CB.out _ _))
     refine wpQuiet_nil ?_;intro _ hw';obtain⟨⟨dq,osq⟩,hw''⟩:=hw';subst hw'';have HF:=hid (HT.out.trans (chain_yes hlt (by rw[← HCX.out];unfold okB;rw[K1.out,decide_eq_true (by have:=K2.out;omega),decide_eq_true (by have:=K3.out;omega)] <;> rfl)));have HB3:=hid (HB2.out.trans ((below_regrown wb dq osq).mono HB2.out.size));go_wp2;go_roundw
     case rel=>exact⟨0+1,by omega,rfl,HB3,HF⟩
     case measure=>simp[intOf];omega
    | succ k=>
     have d4:decide ((0:Int) < ((k+1:Nat):Int))=true:=decide_eq_true (by omega);have hw1:wrap64 (((k+1:Nat):Int) - 1)=(k:Int):=by unfold wrap64;omega
     have hi1:(k:Int) < (ps.length:Int):=by omega
     have hk1:k < ps.length:=by omega
     obtain⟨b2,o2,e2,-,hd0,hd1,hd2⟩:=((ha.ext HB.out).ext HX.out.2).at_ hk1;rw[e1] at e2;injection e2 with e2
     injection e2 with e3 e4
     subst e3 e4;obtain⟨px,hpx⟩:∃ px,px=ps[k]:=⟨_,rfl⟩
     rw[← hpx] at hd0 hd1 hd2;have HPX:=hid hpx;have R0:=cell_regrown hd0;have R1:=cell_regrown hd1;have R2:=cell_regrown hd2;have cD:=fun d os=>Calls.regrown_of (w:=wb) (d:=d) (os:=os) (order2_any px cx _);unfold celV at cD;have HPR:Hid (prevC ps (k+1)=some px):=hid (by show ps[k]?=_;rw[List.getElem?_eq_getElem hk1,hpx]);have hob:=ord_bef px cx;cases k5:befB px cx
     ·have d5:decide (0≤ordC px cx)=true:=by rw[hob,k5];rfl
      have K5:=hid k5;generalize ordC px cx=z at *;clear hob k5 hpx hd0 hd1 hd2;have CA:=hid cA;have CB:=hid cB;have CD:=hid cD;clear cA cB cD;subst e1;go_upto_region 6 with fail
      rw[← HW.out];refine wp_region_quiet_below (by kernel_rfl) (by kernel_rfl) ?_;repeat (go_big_quiet_step (first | with_reducible exact CA.out _ _ | with_reducible exact CB.out _ _ | with_reducible exact CD.out _ _))
      refine wpQuiet_nil ?_;intro _ hw';obtain⟨⟨dq,osq⟩,hw''⟩:=hw';subst hw'';have HF:Hid (chainB none ps=false):=hid (by rw[HT.out];exact chain_no hlt (by rw[← HCX.out,HPR.out];unfold okB;rw[K1.out];show (true && decide (1≤cx.s) && decide (cx.s < 8) && befB px cx)=_;rw[K5.out] <;> simp));go_wp2;go_ret;exact⟨ret_bool (by rw[HF.out] <;> rfl),HB2.out.trans ((below_regrown wb dq osq).mono HB2.out.size)⟩
     ·have d5:decide (0≤ordC px cx)=false:=by rw[hob,k5];rfl
      have K5:=hid k5;generalize ordC px cx=z at *;clear hob k5 hpx hd0 hd1 hd2;have CA:=hid cA;have CB:=hid cB;have CD:=hid cD;clear cA cB cD;subst e1;go_upto_region 6 with fail
      rw[← HW.out];refine wp_region_quiet_below (by kernel_rfl) (by kernel_rfl) ?_;repeat (go_big_quiet_step (first | with_reducible exact CA.out _ _ | with_reducible exact CB.out _ _ | with_reducible exact CD.out _ _))
      refine wpQuiet_nil ?_;intro _ hw';obtain⟨⟨dq,osq⟩,hw''⟩:=hw';subst hw'';have HF:=hid (HT.out.trans (chain_yes hlt (by rw[← HCX.out,HPR.out];unfold okB;rw[K1.out];show (true && decide (1≤cx.s) && decide (cx.s < 8) && befB px cx)=_;rw[K5.out,decide_eq_true (by have:=K2.out;omega),decide_eq_true (by have:=K3.out;omega)] <;> rfl)));have HB3:=hid (HB2.out.trans ((below_regrown wb dq osq).mono HB2.out.size));go_wp2;go_roundw
      case rel=>exact⟨k+1+1,by omega,by go_num,HB3,HF⟩
      case measure=>simp[intOf];omega
   ·have HF:Hid (chainB none ps=true):=hid (by rw[HT.out,List.drop_of_length_le (by omega)];cases prevC ps k <;> rfl);go_wp2;go_ret;exact⟨ret_bool (by rw[HF.out] <;> rfl),HB.out⟩
 ·have d0:decide ((5000:Int) < (ps.length:Int))=true:=decide_eq_true (by omega);rw[decide_eq_false hl];go_enter Tryz.func45,Tryz.ntmps45;go_wp2;go_ret;exact⟨rfl,Below.refl _ _⟩
end Go.Proofs.YtcfelnhmifkelaaGreatDoor
