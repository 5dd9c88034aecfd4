/-
  texts Base Ints Own Builder Cls J: parts of the proof; conditions stand with each theorem.
-/
import Derived.WalkKit
import Derived.WalkSpells
import Derived.WalkLawsBesides
import Derived.Below
import Derived.Laws.OwnMore
import Derived.Laws.Rows
import Derived.Laws.MakeOwn
import Derived.Laws.Entries
import Derived.Deep.AppendLies
import Derived.Deep.Draws
import Derived.Deep.QuietTactic
import Derived.Deep.OwnRows
import Derived.BigQuiet
import Derived.Maps.AppendAt
import Derived.RegionTactic
import Derived.OwnWalk
import Derived.Lib.Hide
import Derived.IntWalk
import Derived.Test.YtcfelnhmifkelaaGreatDoorRows
import Derived.Lib.Strings
import Derived.Lib.Slices
import Derived.Lib.Walk
import Derived.Lib.Builder
import Derived.Lib.AppendStr
import Derived.Lib.UnsafeStr
import Derived.Laws.Externs
namespace Go.Proofs.YtcfelnhmifkelaaGreatDoor
section
universe u0 u1 u2 u3 u4 u5 u6 u7
theorem e_8 {α0:Sort u0} {α1:Sort u1} {α2:Sort u2} {α3:Sort u3} {α4:Sort u4} {α5:Sort u5} {α6:Sort u6} {α7:Sort u7} {p:α0→α1→α2→α3→α4→α5→α6→α7→Prop}{a0:α0}{a1:α1}{a2:α2}{a3:α3}{a4:α4}{a5:α5}{a6:α6}{a7:α7}(h:p a0 a1 a2 a3 a4 a5 a6 a7):∃ a0 a1 a2 a3 a4 a5 a6 a7,p a0 a1 a2 a3 a4 a5 a6 a7:=⟨a0,a1,a2,a3,a4,a5,a6,a7,h⟩
theorem e_4 {α0:Sort u0} {α1:Sort u1} {α2:Sort u2} {α3:Sort u3} {p:α0→α1→α2→α3→Prop}{a0:α0}{a1:α1}{a2:α2}{a3:α3}(h:p a0 a1 a2 a3):∃ a0 a1 a2 a3,p a0 a1 a2 a3:=⟨a0,a1,a2,a3,h⟩
theorem e_2 {α0:Sort u0} {α1:Sort u1} {p:α0→α1→Prop}{a0:α0}{a1:α1}(h:p a0 a1):∃ a0 a1,p a0 a1:=⟨a0,a1,h⟩
theorem e_1 {α0:Sort u0} {p:α0→Prop}{a0:α0}(h:p a0):∃ a0,p a0:=⟨a0,h⟩
end
set_option linter.unusedSimpArgs false
open Go.RowKit
set_option linter.unusedVariables false

theorem block_of_add (a:Addr)(n:Nat):(a.add n).block=a.block:=by unfold Addr.add;split <;> rfl
def Reads (w:World)(B size:Nat)(A:Option Addr)(n:Nat)(xs:List Value):Prop:=
 xs.length=n*size∧(0 < n→∃ ad,A=some ad∧ad.block < B∧∀ j u,xs[j]?=some u→w.cell? (ad.add j)=some u)

section
variable {w w' : World} {B B' size n : Nat} {A : Option Addr} {xs : List Value}
theorem Reads.none_:Reads w B size A 0 []:=⟨by simp,fun h=>absurd h (by omega)⟩
theorem Reads.keep (h:Reads w B size A n xs)(hk:∀ p:Addr,p.block < B→w'.cell? p=w.cell? p):Reads w' B size A n xs:=
 ⟨h.1,fun hn=>by
  obtain⟨ad,e,hb,hc⟩:=h.2 hn;exact⟨ad,e,hb,fun j u hu=>(hk _ (by rw[block_of_add];exact hb)).trans (hc j u hu)⟩⟩
theorem Reads.more (h:Reads w B size A n xs)(hB:B≤B'):Reads w B' size A n xs:=
 ⟨h.1,fun hn=>by
  obtain⟨ad,e,hb,hc⟩:=h.2 hn;exact⟨ad,e,by omega,hc⟩⟩
theorem Reads.below (h:Reads w B size A n xs)(hb:Below B w w'):Reads w' B size A n xs:=h.keep fun _ hp=>hb.cell hp
theorem Reads.of_own {base:Nat}{e:TypeId}{c:Nat}(h:w.ownsRow base e size (.slice A n c) n xs):Reads w w.heap.size size A n xs:=by
 refine⟨h.1,fun hn=>?_⟩;obtain⟨g,cap,hv,_,hlt⟩:=h.form hn;have hA:A=some ⟨g,0,none⟩:=by injection hv
 subst hA;exact⟨_,rfl,hlt,h.cells (g:=g) rfl⟩
end

def Blk (w:World)(g:Nat)(t:TypeId)(cs:Array Value):Prop:=w.heap[g]?=some (.cells cs t (0,0))

section
variable {w w' : World} {g : Nat} {t : TypeId} {cs : Array Value}
theorem Blk.lt (h:Blk w g t cs):g < w.heap.size:=by
 rcases Nat.lt_or_ge g w.heap.size with hlt | hge
 ·exact hlt
 ·unfold Blk at h;rw[Array.getElem?_eq_none hge] at h;cases h
theorem Blk.cell (h:Blk w g t cs)(i:Nat):w.cell? ⟨g,i,none⟩=cs[i]?:=cell_of_row w g i cs t (0,0) h
theorem Blk.frozen (h:Blk w g t cs)(i:Nat):w.frozen? ⟨g,i,none⟩=false:=by
 unfold Blk at h;simp[World.frozen?,h]
theorem Blk.new (w:World)(t:TypeId)(cs:Array Value):Blk (w.alloc (.cells cs t)) w.heap.size t cs:=heap_alloc_new w _
theorem Blk.drew (h:Blk w g t cs):Blk w.drew g t cs:=h
theorem Blk.drewN (h:Blk w g t cs)(n:Nat):Blk (w.drewN n) g t cs:=h
theorem Blk.alloc (h:Blk w g t cs)(o:Obj):Blk (w.alloc o) g t cs:=(Below.heap_alloc w o g h.lt).trans h
theorem Blk.set_ (h:Blk w g t cs)(i:Nat)(u:Value):Blk (w.setCell ⟨g,i,none⟩ u) g t (cs.setIfInBounds i u):=by
 unfold Blk at h ⊢;simp[World.setCell,Array.getElem?_modify,h]
theorem Blk.far (h:Blk w g t cs){p:Addr}(hp:g≠p.block)(u:Value):Blk (w.setCell p u) g t cs:=(Below.heap_setCell w p u g hp).trans h
theorem Blk.below {B:Nat}(h:Blk w g t cs)(hb:Below B w w')(hg:g < B):Blk w' g t cs:=(hb.block g hg).trans h
theorem Blk.grown {row:Option Nat}(h:Blk w g t cs)(hb:w.grownBy w' row)(hg:some g≠row):Blk w' g t cs:=(hb.block g h.lt hg).trans h
theorem Blk.ne_ {g':Nat}{t':TypeId}{cs':Array Value}(h:Blk w g t cs)(h':Blk w g' t' cs')(hne:t≠t'):g≠g':=by
 rintro rfl;unfold Blk at h h';rw[h] at h';injection h' with h'
 injection h' with _ ht
 exact hne ht
theorem own_blk_ne {base:Nat}{e:TypeId}{size n:Nat}{v:Value}{xs:List Value}(h:w.ownsRow base e size v n xs)(hg:Blk w g t cs)(hne:e≠t):v.ownBlock≠some g:=by
 rcases h.2 with ⟨rfl,_⟩ | ⟨g',cap,cur,rfl,_,hh,_⟩
 ·simp[Value.ownBlock]
 ·intro he;have:g'=g:=by simpa [Value.ownBlock] using he
  subst this;exact Blk.ne_ (t:=e) hh hg hne rfl
end

section
variable {P : Program} (w : World)

theorem run_append_of_nil (base:Nat)(t ty e:TypeId)(i:TypeInfo)(size:Nat)(ht:P.underlying t=some (.slice e)) (hi:P.info? e=some i)
  (v:Value) (n:Nat) (xs:List Value) (hown:w.ownsRow base e size v n xs) (c:Nat):(Builtin.append_ #[t,t] ty #[v,.slice none 0 c]).run P w=.ok v w:=by
 rcases hown.2 with ⟨rfl,rfl⟩ | ⟨g,cap,cur,rfl,_,_,hnc,_⟩
 ·simp[Builtin.append_,run_underlying ht,sizeOf,typeInfo,hi,Builtin.lenOf,Builtin.firstCells]
 ·simp[Builtin.append_,run_underlying ht,sizeOf,typeInfo,hi,Builtin.lenOf,Builtin.firstCells,hnc,storeCells]

theorem run_append_any (base:Nat)(t ty e:TypeId)(i:TypeInfo)(z:Value)(size bytes:Nat)(ht:P.underlying t=some (.slice e)) (hi:P.info? e=some i)(hz:i.zero=some z)
  (hsize:i.size=size) (hby:i.bytes=bytes) (hzs:z.cells.size=size) (hsz:0 < size)
  (v:Value) (n:Nat) (xs:List Value) (hown:w.ownsRow base e size v n xs)
  (B:Nat) (A:Option Addr) (m c:Nat) (news:List Value) (hr:Reads w B size A m news) (h1:∀ u ∈ news,u.oneCell'=true)
  (h63:n+m≤maxLen) (hbytes:(n+m)*bytes≤140737488355328) (hbase:base≤w.heap.size) :
  ∃ v' w',(Builtin.append_ #[t,t] ty #[v,.slice A m c]).run P w=.ok v' w'∧w'.ownsRow base e size v' (n+m) (xs ++ news)∧w.grownBy w' v.ownBlock∧
   (v'.ownBlock=v.ownBlock∨v'.ownBlock=some w.heap.size):=by
 rcases A with _ | ad
 ·have hm:m=0:=by
   rcases Nat.eq_zero_or_pos m with h0 | h0
   ·exact h0
   ·obtain⟨ad,h,_⟩:=hr.2 h0;cases h
  subst hm;have hn:news=[]:=List.eq_nil_of_length_eq_zero (by simpa using hr.1);subst hn;exact⟨v,w,run_append_of_nil w base t ty e i size ht hi v n xs hown c,by simpa using hown,World.grownBy.refl w _,.inl rfl⟩
 ·have hcells:∀ j u,news[j]?=some u→w.cell? (ad.add j)=some u:=by
   intro j u hu;rcases Nat.eq_zero_or_pos m with h0 | h0
   ·subst h0;have hn:news=[]:=List.eq_nil_of_length_eq_zero (by simpa using hr.1);subst hn;simp at hu
   ·obtain⟨ad',h,_,hc⟩:=hr.2 h0;injection h with h
    subst h;exact hc j u hu
  obtain⟨v',w',hrun,h2,h3,_,h5⟩:=run_append_own_at (P:=P) w base t ty e i z size bytes ht hi hz hsize hby hzs hsz v n xs hown ad m c news hr.1 hcells h1 h63 hbytes hbase;exact⟨v',w',hrun,h2,h3,h5⟩

theorem wp_append_any {o:Oper}{a:Act}{K:Act→World→Prop}{Q:Exit→Act→World→Prop}(s x:Operand)(t:TypeId)
  (ho:o.op=.call { callee:=.builtin .append,args:=#[s,x],argTypes:=#[t,t] })
  (base:Nat) (e:TypeId) (i:TypeInfo) (z:Value) (size bytes:Nat) (ht:P.underlying t=some (.slice e)) (hi:P.info? e=some i) (hz:i.zero=some z)
  (hsize:i.size=size) (hby:i.bytes=bytes) (hzs:z.cells.size=size) (hsz:0 < size)
  (v:Value) (n:Nat) (xs:List Value) (hs:a.eval s=v) (hown:w.ownsRow base e size v n xs)
  (B:Nat) (A:Option Addr) (m c:Nat) (news:List Value) (hx:a.eval x=.slice A m c) (hr:Reads w B size A m news) (h1:∀ u ∈ news,u.oneCell'=true)
  (h63:n+m≤maxLen) (hbytes:(n+m)*bytes≤140737488355328) (hbase:base≤w.heap.size)
  (h:∀ v' w',w'.ownsRow base e size v' (n+m) (xs ++ news)→w.grownBy w' v.ownBlock→(v'.ownBlock=v.ownBlock∨v'.ownBlock=some w.heap.size)→K (a.put o.dst v') w'):o.wp P a w K Q:=by
 obtain⟨v',w',hrun,h2,h3,h4⟩:=run_append_any (P:=P) w base t o.type e i z size bytes ht hi hz hsize hby hzs hsz v n xs hown B A m c news hr h1 h63 hbytes hbase;unfold Oper.wp execOp;simp only[ho,resolve,invoke,builtin,Sem.run_bind,Sem.run_pure,Result.andThen_ok,List.map_toArray,List.map_cons,List.map_nil,hs,hx,hrun];exact h v' w' h2 h3 h4

theorem wpList_append_any {ops:Array Oper}{rest:List Oper}{o:Oper}{a:Act}{Q:Exit→Act→World→Prop}(hgd:o.guard=none)(s x:Operand)(t:TypeId)
  (ho:o.op=.call { callee:=.builtin .append,args:=#[s,x],argTypes:=#[t,t] })
  (base:Nat) (e:TypeId) (i:TypeInfo) (z:Value) (size bytes:Nat) (ht:P.underlying t=some (.slice e)) (hi:P.info? e=some i) (hz:i.zero=some z)
  (hsize:i.size=size) (hby:i.bytes=bytes) (hzs:z.cells.size=size) (hsz:0 < size)
  (v:Value) (n:Nat) (xs:List Value) (hs:a.eval s=v) (hown:w.ownsRow base e size v n xs)
  (B:Nat) (A:Option Addr) (m c:Nat) (news:List Value) (hx:a.eval x=.slice A m c) (hr:Reads w B size A m news) (h1:∀ u ∈ news,u.oneCell'=true)
  (h63:n+m≤maxLen) (hbytes:(n+m)*bytes≤140737488355328) (hbase:base≤w.heap.size)
  (h:∀ v' w',w'.ownsRow base e size v' (n+m) (xs ++ news)→w.grownBy w' v.ownBlock→(v'.ownBlock=v.ownBlock∨v'.ownBlock=some w.heap.size)→wpList P ops Q rest (a.put o.dst v') w'):wpList P ops Q (o :: rest) a w:=
 wpList_plain hgd fun _ hK=>wp_append_any w s x t ho base e i z size bytes ht hi hz hsize hby hzs hsz v n xs hs hown B A m c news hx hr h1 h63 hbytes hbase fun v' w' h2 h3 h4=>hK _ _ (h v' w' h2 h3 h4)

end

theorem results_tmp4 {fn:Func}{t u v x:Tmp}(h:fn.results=#[.tmp t,.tmp u,.tmp v,.tmp x])(tmps:Array Value)(P:Program)(w:World) :
  (results fn tmps).run P w=.ok (.tuple #[tmps.getD t undef,tmps.getD u undef,tmps.getD v undef,tmps.getD x undef]) w:=by simp[results,h]
theorem below_drewN {B:Nat}{a w:World}(h:Below B a w)(n:Nat):Below B a (w.drewN n):=⟨h.os,h.tape,h.output,h.size,h.block⟩
theorem only_drew {a w:World}{row:Option Nat}(h:a.grownBy w row):a.grownBy w.drew row:=⟨h.os,h.tape,h.output,h.size,h.block⟩
theorem only_setCell {a w:World}{g:Nat}(h:a.grownBy w (some g)) {p:Addr}(hp:p.block=g∨a.heap.size≤p.block)(u:Value):a.grownBy (w.setCell p u) (some g):=
 ⟨h.os,h.tape,h.output,by simpa [World.setCell] using h.size,fun i hi hne=>(Below.heap_setCell w p u i (by
  rintro rfl;rcases hp with hp | hp
  ·exact hne (by rw[hp])
  ·omega)).trans (h.block i hi hne)⟩
end Go.Proofs.YtcfelnhmifkelaaGreatDoor
namespace Go.Proofs.YtcfelnhmifkelaaGreatDoor
set_option linter.unusedSimpArgs false
set_option linter.unusedVariables false
open Go.RowKit

theorem addr_add (b o i:Nat):(⟨b,o,none⟩:Addr).add i=⟨b,o+i,none⟩:=by
 unfold Addr.add
 split
 ·subst i;rfl
 ·rfl
theorem spot_none {w:World}{b o:Nat}{sp:Option Nat}{u:Value}(h:w.cell? ((⟨b,o,sp⟩:Addr).add 0)=some u):sp=none:=by
 cases sp with
 | none=>rfl
 | some x=>
  simp only[Addr.add,if_pos,World.cell?] at h
  split at h <;> simp at h
def Ints (w:World)(A:Option Addr)(xs:List Int):Prop:=Reads w w.heap.size 1 A xs.length (xs.map (Value.int .i64))∧xs.length≤9223372036854775807

section
variable {w w' : World} {A : Option Addr} {xs : List Int}
theorem Ints.at_ {k:Nat}(h:Ints w A xs)(hk:k < xs.length):∃ b o,A=some ⟨b,o,none⟩∧b < w.heap.size∧w.cell? ⟨b,o+k,none⟩=some (.int .i64 xs[k]):=by
 obtain⟨ad,e,hb,hc⟩:=h.1.2 (by omega);have h0:=hc 0 (.int .i64 xs[0]) (by simp);have hk':=hc k (.int .i64 xs[k]) (by simp[List.getElem?_eq_getElem hk]);obtain⟨b,o,sp⟩:=ad;obtain rfl:=spot_none h0;rw[addr_add] at hk';exact⟨b,o,e,hb,hk'⟩
theorem Ints.le (h:Ints w A xs):xs.length≤9223372036854775807:=h.2
theorem Ints.ext (h:Ints w A xs)(hb:Below w.heap.size w w'):Ints w' A xs:=⟨(Reads.below h.1 hb).more hb.size,h.2⟩
theorem Ints.drewN (h:Ints w A xs)(n:Nat):Ints (w.drewN n) A xs:=h
theorem Ints.nil:Ints w A []:=⟨Reads.none_,by simp⟩
end

def ptCells (p:Int × Int):List Value:=[.int .i64 p.1,.int .i64 p.2]
def Pts (w:World)(A:Option Addr)(ps:List (Int × Int)):Prop:=Reads w w.heap.size 2 A ps.length (ps.flatMap ptCells)∧ps.length≤9223372036854775807
theorem flat2:∀ (ps:List (Int × Int)) (k:Nat)(hk:k < ps.length),(ps.flatMap ptCells)[2*k]?=some (.int .i64 ps[k].1)∧(ps.flatMap ptCells)[2*k+1]?=some (.int .i64 ps[k].2)
 | p :: ps,0,_=>by simp[ptCells]
 | p :: ps,k+1,hk=>by
  have h:=flat2 ps k (by simpa using hk);have e1:2*(k+1)=(2*k)+1+1:=by omega
  have e2:2*(k+1)+1=(2*k+1)+1+1:=by omega
  simp only[List.flatMap_cons,ptCells,List.cons_append,List.nil_append,e1,List.getElem?_cons_succ,List.getElem_cons_succ];exact h
section
variable {w w' : World} {A : Option Addr} {ps : List (Int × Int)}
theorem Pts.at_ {k:Nat}(h:Pts w A ps)(hk:k < ps.length):∃ b o,A=some ⟨b,o,none⟩∧b < w.heap.size∧w.cell? ⟨b,o+k*2,none⟩=some (.int .i64 ps[k].1)∧w.cell? ⟨b,o+k*2+1,none⟩=some (.int .i64 ps[k].2):=by
 obtain⟨ad,e,hb,hc⟩:=h.1.2 (by omega);obtain⟨f1,f2⟩:=flat2 ps k hk;obtain⟨f0,_⟩:=flat2 ps 0 (by omega);have h0:=hc _ _ f0;obtain⟨b,o,sp⟩:=ad;obtain rfl:=spot_none h0;refine⟨b,o,e,hb,?_,?_⟩
 ·rw[Nat.mul_comm];have:=hc _ _ f1;rwa [addr_add] at this
 ·rw[Nat.mul_comm];have:=hc _ _ f2;rwa [addr_add] at this
theorem Pts.le (h:Pts w A ps):ps.length≤9223372036854775807:=h.2
theorem Pts.ext (h:Pts w A ps)(hb:Below w.heap.size w w'):Pts w' A ps:=⟨(Reads.below h.1 hb).more hb.size,h.2⟩
theorem Pts.nil:Pts w A []:=⟨Reads.none_,by simp⟩
end

def Qt (w w':World):Prop:=∃ k,w'=w.drewN k
theorem Qt.refl (w:World):Qt w w:=⟨0,rfl⟩
theorem Qt.drewN (w:World)(k:Nat):Qt w (w.drewN k):=⟨k,rfl⟩
theorem Qt.trans {a b c:World}(h:Qt a b)(k:Qt b c):Qt a c:=by
 obtain⟨m,rfl⟩:=h;obtain⟨n,rfl⟩:=k;exact⟨m+n,by rw[World.drewN_drewN]⟩
theorem Qt.below {a b:World}(h:Qt a b)(B:Nat):Below B a b:=by
 obtain⟨k,rfl⟩:=h;exact below_drewN (Below.refl _ _) k
theorem Qt.step {a b:World}(h:Qt a b)(k:Nat):Qt a (b.drewN k):=h.trans (Qt.drewN _ _)
theorem ret_bool {a b:Bool}(h:a=b):Ending.returned (.bool a)=.returned (.bool b):=by rw[h]
theorem ret_int {k:IntKind}{a b:Int}(h:a=b):Ending.returned (.int k a)=.returned (.int k b):=by rw[h]
theorem box_cell {w w1:World}{cs:Array Value}{T:TypeId}(hb:Below (w.alloc (.cells cs T)).heap.size (w.alloc (.cells cs T)) w1) (i:Nat)(v:Value)(h:cs[i]?=some v):w1.cell? ⟨w.heap.size,i,none⟩=some v:=by
 rw[hb.cell (by simp),cell_of_row _ _ _ _ _ _ (heap_alloc_new w _),h]
def ptNe (a b c d:Int):Bool:=!(a == c && b == d)
theorem ptNe_true {p q:Int × Int}(h:ptNe p.1 p.2 q.1 q.2=true):¬ p=q:=by
 rintro rfl;simp[ptNe] at h
theorem ptNe_false {p q:Int × Int}(h:ptNe p.1 p.2 q.1 q.2=false):p=q:=by
 simp[ptNe] at h;exact Prod.ext h.1 h.2
def NewA (B:Nat)(A:Option Addr):Prop:=∀ ad,A=some ad→B≤ad.block
theorem NewA.none_ (B:Nat):NewA B none:=by intro ad h;cases h
theorem NewA.mono {B B':Nat}{A:Option Addr}(h:NewA B A)(hB:B'≤B):NewA B' A:=fun ad e=>Nat.le_trans hB (h ad e)
theorem Reads.set_ne {w:World}{B size n:Nat}{A:Option Addr}{xs:List Value}(h:Reads w B size A n xs){p:Addr}(hne:∀ ad,A=some ad→ad.block≠p.block)(u:Value):Reads (w.setCell p u) B size A n xs:=
 ⟨h.1,fun hn=>by
  obtain⟨ad,e,hb,hc⟩:=h.2 hn;refine⟨ad,e,hb,fun j v hv=>?_⟩;rw[World.cell?_setCell_other w p (ad.add j) u (fun e2=>hne ad e (by rw[e2,block_of_add]))];exact hc j v hv⟩
theorem Reads.size_set {w:World}{size n:Nat}{A:Option Addr}{xs:List Value}{p:Addr}{u:Value}(h:Reads (w.setCell p u) w.heap.size size A n xs):Reads (w.setCell p u) (w.setCell p u).heap.size size A n xs:=h.more (by simp[World.setCell])
section
variable {w w0 : World} {A : Option Addr} {ps : List (Int × Int)} {zs : List Int} {p : Addr}
theorem Pts.set_new (h:Pts w A ps){B:Nat}(hn:NewA B A)(hp:p.block < B)(u:Value):Pts (w.setCell p u) A ps:=
 ⟨(h.1.set_ne (fun ad e=>by have:=hn ad e;omega) u).size_set,h.2⟩
theorem Ints.set_new (h:Ints w A zs){B:Nat}(hn:NewA B A)(hp:p.block < B)(u:Value):Ints (w.setCell p u) A zs:=
 ⟨(h.1.set_ne (fun ad e=>by have:=hn ad e;omega) u).size_set,h.2⟩
theorem Pts.set_old (h:Pts w A ps)(h0:Pts w0 A ps)(hp:w0.heap.size≤p.block)(u:Value):Pts (w.setCell p u) A ps:=by
 refine⟨⟨h.1.1,fun hn=>?_⟩,h.2⟩;obtain⟨ad,e,hb,hc⟩:=h.1.2 hn;obtain⟨ad',e',hb',_⟩:=h0.1.2 hn;obtain rfl:ad=ad':=by rw[e] at e';injection e'
 refine⟨ad,e,by simpa [World.setCell] using hb,fun j v hv=>?_⟩;rw[World.cell?_setCell_other w p (ad.add j) u (fun e2=>by have:=block_of_add ad j;rw[← e2] at this;omega)];exact hc j v hv
end
def RetPts (ps:List (Int × Int)) (w:World)(e:Ending)(w':World):Prop:=∃ A c,e=.returned (.slice A ps.length c)∧Pts w' A ps∧NewA w.heap.size A∧Below w.heap.size w w'
def RetIntsB (zs:List Int)(b:Bool)(w:World)(e:Ending)(w':World):Prop:=∃ A c,e=.returned (.tuple #[.slice A zs.length c,.bool b])∧Ints w' A zs∧NewA w.heap.size A∧Below w.heap.size w w'
theorem below_set4 {B b:Nat}{a w:World}(h:Below B a w)(hb:B≤b)(v0 v1 v2 v3:Value):Below B a ((((w.setCell ⟨b,0,none⟩ v0).setCell ⟨b,1,none⟩ v1).setCell ⟨b,2,none⟩ v2).setCell ⟨b,3,none⟩ v3):=
 (((h.setCell (p:=⟨b,0,none⟩) hb v0).setCell (p:=⟨b,1,none⟩) hb v1).setCell (p:=⟨b,2,none⟩) hb v2).setCell (p:=⟨b,3,none⟩) hb v3
theorem Blk.cell_ {w:World}{g:Nat}{t:TypeId}{cs:Array Value}(h:Blk w g t cs)(i:Nat)(v:Value)(hv:cs[i]?=some v):w.cell? ⟨g,i,none⟩=some v:=(h.cell i).trans hv

def OwnI (e:TypeId)(w:World)(base:Nat)(v:Value)(zs:List Int):Prop:=w.ownsRow base e 1 v zs.length (zs.map (Value.int .i64))
def OwnP (e:TypeId)(w:World)(base:Nat)(v:Value)(ps:List (Int × Int)):Prop:=w.ownsRow base e 2 v ps.length (ps.flatMap ptCells)

theorem own_form {w:World}{base:Nat}{e:TypeId}{size n:Nat}{v:Value}{xs:List Value}(h:w.ownsRow base e size v n xs) :
  ∃ A c,v=.slice A n c∧(Reads w w.heap.size size A n xs∧n≤9223372036854775807)∧NewA base A:=by
 rcases h.2 with ⟨rfl,rfl⟩ | ⟨g,cap,cur,rfl,h2⟩
 ·exact⟨none,0,rfl,⟨Reads.of_own (c:=0) h,by simp⟩,NewA.none_ _⟩
 ·refine⟨_,cap,rfl,⟨Reads.of_own h,?_⟩,?_⟩
  ·have:=h2.2.2.1;have:=h2.2.2.2.1;unfold maxLen at this;omega
  ·intro ad e;injection e with e
   subst e;exact h2.1
section
variable {w w' : World} {e : TypeId} {base : Nat} {v : Value} {zs : List Int} {ps : List (Int × Int)}
theorem OwnI.nil (e:TypeId)(w:World)(base:Nat):OwnI e w base (.slice none 0 0) []:=World.ownsRow_nil _ _ _ _
theorem OwnP.nil (e:TypeId)(w:World)(base:Nat):OwnP e w base (.slice none 0 0) []:=World.ownsRow_nil _ _ _ _
theorem OwnI.ints (h:OwnI e w base v zs):∃ A c,v=.slice A zs.length c∧Ints w A zs∧NewA base A:=own_form h
theorem OwnP.pts (h:OwnP e w base v ps):∃ A c,v=.slice A ps.length c∧Pts w A ps∧NewA base A:=own_form h
theorem OwnI.drewN (h:OwnI e w base v zs)(n:Nat):OwnI e (w.drewN n) base v zs:=h
theorem OwnP.drewN (h:OwnP e w base v ps)(n:Nat):OwnP e (w.drewN n) base v ps:=h
theorem own_below {size n:Nat}{xs:List Value}(h:w.ownsRow base e size v n xs)(hb:Below w.heap.size w w'):w'.ownsRow base e size v n xs:=by
 obtain⟨h1,h2⟩:=h;refine⟨h1,?_⟩;rcases h2 with h2 | ⟨g,cap,cur,h3,h4,h5,h6⟩
 ·exact .inl h2
 ·refine .inr ⟨g,cap,cur,h3,h4,?_,h6⟩;rw[hb.block g ?_]
  ·exact h5
  ·rcases Nat.lt_or_ge g w.heap.size with hlt | hge
   ·exact hlt
   ·rw[Array.getElem?_eq_none hge] at h5;cases h5
theorem OwnP.ext (h:OwnP e w base v ps)(hb:Below w.heap.size w w'):OwnP e w' base v ps:=own_below h hb
end

theorem wpList_push {P:Program}{wr:World}{ops:Array Oper}{rest:List Oper}{o:Oper}{a:Act}{Q:Exit→Act→World→Prop}(hgd:o.guard=none)(s x:Operand)(t:TypeId)
  (ho:o.op=.call { callee:=.builtin .append,args:=#[s,x],argTypes:=#[t,t] })
  (base:Nat) (e:TypeId) (z:Value) (size bytes:Nat) (ht:P.underlying t=some (.slice e)) (hi:(P.info? e).map (fun i=>(i.zero,i.size,i.bytes))=some (some z,size,bytes))
  (hzs:z.cells.size=size) (hsz:0 < size)
  (v:Value) (n:Nat) (xs:List Value) (hs:a.eval s=v) (hown:wr.ownsRow base e size v n xs)
  (cs:List Value) (hcs:cs.length=size) (hx:a.eval x=.slice (some ⟨wr.heap.size,0,none⟩) 1 1) (h1:∀ u ∈ cs,u.oneCell'=true)
  (h63:n+1≤maxLen) (hbytes:(n+1)*bytes≤140737488355328) (hbase:base≤wr.heap.size)
  (h:∀ v' w',w'.ownsRow base e size v' (n+1) (xs ++ cs)→Below base wr w'→wpList P ops Q rest (a.put o.dst v') w') :
  wpList P ops Q (o :: rest) a (wr.alloc (.cells cs.toArray e)):=by
 obtain⟨i0,hi0,hz0,hz1,hz2⟩:=info_parts hi;refine wpList_append_own _ hgd s x t ho base e i0 z size bytes ht hi0 hz0 hz1 hz2 hzs hsz v n xs hs (hown.alloc _) ⟨wr.heap.size,0,none⟩ 1 1 cs hx (by omega) ?_ h1 h63 hbytes (by simp;omega) ?_
 ·intro j u hu;rw[addr_add];have:(wr.alloc (.cells cs.toArray e)).cell? ⟨wr.heap.size,0+j,none⟩=cs.toArray[0+j]?:=cell_of_row _ _ _ _ _ _ (heap_alloc_new wr _);rw[this];simpa using hu
 ·intro v' w' hown' hg _;refine h v' w' hown' ?_;refine ((Below.refl base wr).alloc hbase _).grown hg (by simp;omega) ?_;intro k hk;rcases hown.2 with ⟨rfl,_⟩ | ⟨g,cap,cur,rfl,h4,_⟩
  ·simp[Value.ownBlock] at hk
  ·simp[Value.ownBlock] at hk;omega
theorem wpList_pushI {P:Program}{wr:World}{ops:Array Oper}{rest:List Oper}{o:Oper}{a:Act}{Q:Exit→Act→World→Prop}(hgd:o.guard=none)(s x:Operand)(t:TypeId)
  (ho:o.op=.call { callee:=.builtin .append,args:=#[s,x],argTypes:=#[t,t] })
  (base:Nat) (e:TypeId) (ht:P.underlying t=some (.slice e)) (hi:(P.info? e).map (fun i=>(i.zero,i.size,i.bytes))=some (some (.int .i64 0),1,8))
  (v:Value) (zs:List Int) (hs:a.eval s=v) (hown:OwnI e wr base v zs)
  (z:Int) (hx:a.eval x=.slice (some ⟨wr.heap.size,0,none⟩) 1 1)
  (hn:zs.length < 4294967296) (hbase:base≤wr.heap.size)
  (h:∀ v' w',OwnI e w' base v' (zs ++ [z])→Below base wr w'→wpList P ops Q rest (a.put o.dst v') w') :
  wpList P ops Q (o :: rest) a (wr.alloc (.cells #[.int .i64 z] e)):=
 wpList_push hgd s x t ho base e (.int .i64 0) 1 8 ht hi rfl (by decide) v zs.length _ hs hown [.int .i64 z] rfl hx (by simp[Value.oneCell']) (by unfold maxLen;omega) (by omega) hbase
  (fun v' w' h1 h2=>h v' w' (by unfold OwnI;rw[List.length_append,List.map_append];exact h1) h2)
theorem wpList_pushP {P:Program}{wr:World}{ops:Array Oper}{rest:List Oper}{o:Oper}{a:Act}{Q:Exit→Act→World→Prop}(hgd:o.guard=none)(s x:Operand)(t:TypeId)
  (ho:o.op=.call { callee:=.builtin .append,args:=#[s,x],argTypes:=#[t,t] })
  (base:Nat) (e:TypeId) (ht:P.underlying t=some (.slice e)) (hi:(P.info? e).map (fun i=>(i.zero,i.size,i.bytes))=some (some (.agg #[.int .i64 0,.int .i64 0]),2,16))
  (v:Value) (ps:List (Int × Int)) (hs:a.eval s=v) (hown:OwnP e wr base v ps)
  (p q:Int) (hx:a.eval x=.slice (some ⟨wr.heap.size,0,none⟩) 1 1)
  (hn:ps.length < 4294967296) (hbase:base≤wr.heap.size)
  (h:∀ v' w',OwnP e w' base v' (ps ++ [(p,q)])→Below base wr w'→wpList P ops Q rest (a.put o.dst v') w') :
  wpList P ops Q (o :: rest) a (wr.alloc (.cells #[.int .i64 p,.int .i64 q] e)):=
 wpList_push hgd s x t ho base e _ 2 16 ht hi rfl (by decide) v ps.length _ hs hown [.int .i64 p,.int .i64 q] rfl hx (by simp[Value.oneCell']) (by unfold maxLen;omega) (by omega) hbase
  (fun v' w' h1 h2=>h v' w' (by unfold OwnP;rw[List.length_append,List.flatMap_append];exact h1) h2)
set_option maxRecDepth 100000
theorem Tryz.sizeBuilder:(Tryz.prog.info? 97).map (·.size)=some 2:=by kernel_rfl
theorem Tryz.liesBuilder:liesAt Tryz.prog Tryz.prog.depth 97 (2 / Tryz.prog.cellsOf 97) 0 97 1=true:=by kernel_rfl
theorem Tryz.infoByte:(Tryz.prog.info? 5).map (fun i=>(i.zero,i.size,i.bytes))=some (some (.int .u8 0),1,1):=by kernel_rfl
set_option maxHeartbeats 1000000 in
theorem copyCheck_used (b:Nat)(w:World)(h0:w.cell? ⟨b,0,none⟩=some (.pointer (some ⟨b,0,none⟩))) :
  Calls Tryz.prog 110 #[.pointer (some ⟨b,0,none⟩)] w fun e w'=>e=.returned (.tuple #[])∧w'=w:=by
 obtain⟨j,hj,_⟩:=Option.map_eq_some_iff.1 Tryz.sizeBuilder;go_enter Tryz.func110,Tryz.ntmps110;go_wp2;rw[Lib.run_neq_ptr_same w _ Tryz.underlying94 hj];go_wp2
 go_end0
 exact⟨rfl,rfl⟩
set_option maxHeartbeats 1000000 in
theorem copyCheck_fresh (b:Nat)(w:World)(h0:w.cell? ⟨b,0,none⟩=some (.pointer none)) (hsh:w.shape? b=some (97,2)) (hfz:w.frozen? ⟨b,0,none⟩=false) :
  Calls Tryz.prog 110 #[.pointer (some ⟨b,0,none⟩)] w fun e w'=>e=.returned (.tuple #[])∧w'=w.setCell ⟨b,0,none⟩ (.pointer (some ⟨b,0,none⟩)):=by
 obtain⟨j,hj,hjs⟩:=Option.map_eq_some_iff.1 Tryz.sizeBuilder;go_enter Tryz.func110,Tryz.ntmps110;go_wp2;rw[Lib.run_to_unsafe w ⟨b,0,none⟩ Tryz.underlying94 Tryz.underlying158 hj (by rw[hjs];decide) hsh (Nat.zero_lt_succ 1)];simp only[Result.andThen];rw[Oper.upon_value];go_wp2;rw[run_callFunc_extern Tryz.func140 (by kernel_rfl) (by kernel_rfl) (by kernel_rfl) (e:=Extern.AbiNoEscape.same) (by kernel_rfl)];rw[Lib.run_noEscape];simp only[Result.andThen];rw[Oper.upon_value];go_wp2;rw[Lib.run_from_unsafe w ⟨b,0,none⟩ Tryz.underlying158 Tryz.underlying94 hj hsh Tryz.liesBuilder];simp only[Result.andThen];rw[Oper.upon_value];go_wp2
 go_end0
 exact⟨rfl,rfl⟩
theorem copyCheck_any (B b:Nat)(bs:List Value)(w:World)(h:Lib.IsBuilder 97 5 B b bs w) :
  Calls Tryz.prog 110 #[.pointer (some ⟨b,0,none⟩)] w fun e w'=>e=.returned (.tuple #[])∧(Lib.BuilderAt 97 5 B b (.pointer (some ⟨b,0,none⟩)) bs w'∧Below B w w'):=by
 rcases h with h | h
 ·refine (copyCheck_fresh b w h.cell0 h.shape h.frozen0).mono ?_;rintro e w' ⟨rfl,rfl⟩;exact⟨rfl,h.used _,(Below.refl B w).setCell (p:=⟨b,0,none⟩) h.1 _⟩
 ·refine (copyCheck_used b w h.cell0).mono ?_;rintro e w' ⟨rfl,rfl⟩;exact⟨rfl,h,Below.refl B _⟩
set_option maxHeartbeats 2000000 in
theorem writeByte_any (B b:Nat)(bs:List Value)(c:Int)(w:World)(h:Lib.IsBuilder 97 5 B b bs w)(hlen:bs.length+1≤140737488355328)(hBw:B≤w.heap.size) :
  Calls Tryz.prog 75 #[.pointer (some ⟨b,0,none⟩),.int .u8 c] w fun e w'=>e=.returned .nilIface∧(Lib.BuilderAt 97 5 B b (.pointer (some ⟨b,0,none⟩)) (bs ++ [.int .u8 c]) w'∧Below B w w'):=by
 obtain⟨i0,hi,hz0,hz1,hz2⟩:=info_parts Tryz.infoByte;go_enter Tryz.func75,Tryz.ntmps75;go_wp2_with (go_at_call 110;refine (copyCheck_any B b bs _ h).mono ?_);rintro e w1 ⟨rfl,h1,hb1⟩;obtain⟨hB,v,hbk,hown,hne⟩:=h1;have c0:w1.cell? ⟨b,0,none⟩=some (.pointer (some ⟨b,0,none⟩)):=by rw[Lib.cell_of_heap hbk];rfl
 have c1:w1.cell? ⟨b,1,none⟩=some v:=by rw[Lib.cell_of_heap hbk];rfl
 go_wp2_with (at_builtin;refine wpList_append_own _ rfl _ _ 95 rfl B 5 i0 (.int .u8 0) 1 1 Tryz.underlying95 hi hz0 hz1 hz2 rfl (by decide) _ _ _ rfl (hown.alloc _) ⟨w1.heap.size,0,none⟩ 1 1 [.int .u8 c] rfl rfl ?c1 ?c2 ?c3 ?c4 ?c5 ?_)
 case c1=>
  intro j u hj
  match j,hj with
  | 0,hj=>simp at hj;subst hj;simp[Addr.add]
 case c2=>intro u hu;simp at hu;subst hu;rfl
 case c3=>unfold maxLen;omega
 case c4=>omega
 case c5=>have:=hb1.size;simp;omega
 intro v' w2 hown' hgrow _;have hlt:b < w1.heap.size:=by
  rcases Nat.lt_or_ge b w1.heap.size with h' | h'
  ·exact h'
  ·simp[Array.getElem?_eq_none h'] at hbk
 have hb2:w2.heap[b]?=some (.cells #[.pointer (some ⟨b,0,none⟩),v] 97 (0,0)):=by
  rw[hgrow.block b (by simp;omega) (fun e=>hne e.symm),Lib.alloc_old w1 _ b hlt];exact hbk
 have d0:w2.cell? ⟨b,0,none⟩=some (.pointer (some ⟨b,0,none⟩)):=by rw[Lib.cell_of_heap hb2];rfl
 have d1:w2.cell? ⟨b,1,none⟩=some v:=by rw[Lib.cell_of_heap hb2];rfl
 have f1:w2.frozen? ⟨b,1,none⟩=false:=Lib.frozen_of_heap hb2 1;obtain⟨g,cap,rfl⟩:∃ g cap,v'=.slice (some ⟨g,0,none⟩) (bs.length+1) cap:=by
  rcases hown'.2 with ⟨_,h0⟩ | ⟨g,cap,cur,hv,_⟩
  ·omega
  ·exact⟨g,cap,hv⟩
 go_wp2;go_ret;refine⟨rfl,?_,?_⟩
 ·exact Lib.BuilderAt.put (T:=97) (e:=5) hB hb2 (bs':=bs ++ [.int .u8 c]) (by simpa using hown') (by decide)
 ·exact ((hb1.alloc (by have:=hb1.size;omega) _).grown hgrow (by have:=hb1.size;simp;omega) (fun k hk=>(hown.lt k hk).1)).setCell (p:=⟨b,1,none⟩) hB _
set_option maxHeartbeats 2000000 in
theorem writeString_any (B b:Nat)(bs:List Value)(s:ByteArray)(w:World)(h:Lib.IsBuilder 97 5 B b bs w)(hlen:bs.length+s.size≤140737488355328)(hBw:B≤w.heap.size) :
  Calls Tryz.prog 73 #[.pointer (some ⟨b,0,none⟩),.string s] w fun e w'=>e=.returned (.tuple #[.int .i64 s.size,.nilIface])∧(Lib.BuilderAt 97 5 B b (.pointer (some ⟨b,0,none⟩)) (bs ++ Lib.strCells s) w'∧Below B w w'):=by
 obtain⟨i0,hi,hz0,hz1,hz2⟩:=info_parts Tryz.infoByte;go_enter Tryz.func73,Tryz.ntmps73;go_wp2_with (go_at_call 110;refine (copyCheck_any B b bs _ h).mono ?_);rintro e w1 ⟨rfl,h1,hb1⟩;obtain⟨hB,v,hbk,hown,hne⟩:=h1;have c0:w1.cell? ⟨b,0,none⟩=some (.pointer (some ⟨b,0,none⟩)):=by rw[Lib.cell_of_heap hbk];rfl
 have c1:w1.cell? ⟨b,1,none⟩=some v:=by rw[Lib.cell_of_heap hbk];rfl
 go_wp2_with (at_builtin;refine Lib.wpList_append_own_string _ rfl _ _ 95 9 rfl B 5 i0 Tryz.underlying95 Tryz.underlying9 hi hz0 hz1 hz2 _ _ _ rfl hown s rfl ?c3 ?c4 ?c5 ?_)
 case c3=>unfold maxLen;omega
 case c4=>omega
 case c5=>have:=hb1.size;omega
 intro v' w2 hown' hgrow _;have hlt:b < w1.heap.size:=by
  rcases Nat.lt_or_ge b w1.heap.size with h' | h'
  ·exact h'
  ·simp[Array.getElem?_eq_none h'] at hbk
 have hb2:w2.heap[b]?=some (.cells #[.pointer (some ⟨b,0,none⟩),v] 97 (0,0)):=by
  rw[hgrow.block b hlt (fun e=>hne e.symm)];exact hbk
 have d0:w2.cell? ⟨b,0,none⟩=some (.pointer (some ⟨b,0,none⟩)):=by rw[Lib.cell_of_heap hb2];rfl
 have d1:w2.cell? ⟨b,1,none⟩=some v:=by rw[Lib.cell_of_heap hb2];rfl
 have f1:w2.frozen? ⟨b,1,none⟩=false:=Lib.frozen_of_heap hb2 1;obtain⟨ao,n',cap,rfl⟩:∃ ao n' cap,v'=.slice ao n' cap:=by
  rcases hown'.2 with ⟨hv,_⟩ | ⟨g,cap,cur,hv,_⟩
  ·exact⟨_,_,_,hv⟩
  ·exact⟨_,_,_,hv⟩
 go_wp2;go_ret2;refine⟨rfl,?_,?_⟩
 ·exact Lib.BuilderAt.put (T:=97) (e:=5) hB hb2 (bs':=bs ++ Lib.strCells s) (by simpa [Lib.strCells_length] using hown') (by decide)
 ·exact (hb1.grown hgrow (by have:=hb1.size;omega) (fun k hk=>(hown.lt k hk).1)).setCell (p:=⟨b,1,none⟩) hB _

structure Cel where
 x:Int
 y:Int
 s:Int
 deriving DecidableEq
def celCells (c:Cel):List Value:=[.int .i64 c.x,.int .i64 c.y,.int .i64 c.s]
def Cls (w:World)(A:Option Addr)(ps:List Cel):Prop:=Reads w w.heap.size 3 A ps.length (ps.flatMap celCells)∧ps.length≤9223372036854775807
theorem flat3:∀ (ps:List Cel)(k:Nat)(hk:k < ps.length),(ps.flatMap celCells)[3*k]?=some (.int .i64 ps[k].x)∧(ps.flatMap celCells)[3*k+1]?=some (.int .i64 ps[k].y)∧(ps.flatMap celCells)[3*k+2]?=some (.int .i64 ps[k].s)
 | p :: ps,0,_=>by simp[celCells]
 | p :: ps,k+1,hk=>by
  have h:=flat3 ps k (by simpa using hk);have e1:3*(k+1)=(3*k)+1+1+1:=by omega
  have e2:3*(k+1)+1=(3*k+1)+1+1+1:=by omega
  have e3:3*(k+1)+2=(3*k+2)+1+1+1:=by omega
  simp only[List.flatMap_cons,celCells,List.cons_append,List.nil_append,e1,e2,e3,List.getElem?_cons_succ,List.getElem_cons_succ];exact h
section
variable {w w' : World} {A : Option Addr} {ps : List Cel}
theorem Cls.at_ {k:Nat}(h:Cls w A ps)(hk:k < ps.length):∃ b o,A=some ⟨b,o,none⟩∧b < w.heap.size∧w.cell? ⟨b,o+k*3,none⟩=some (.int .i64 ps[k].x)∧w.cell? ⟨b,o+k*3+1,none⟩=some (.int .i64 ps[k].y)∧w.cell? ⟨b,o+k*3+2,none⟩=some (.int .i64 ps[k].s):=by
 obtain⟨ad,e,hb,hc⟩:=h.1.2 (by omega);obtain⟨f1,f2,f3⟩:=flat3 ps k hk;obtain⟨f0,_⟩:=flat3 ps 0 (by omega);have h0:=hc _ _ f0;obtain⟨b,o,sp⟩:=ad;obtain rfl:=spot_none h0;refine⟨b,o,e,hb,?_,?_,?_⟩
 ·rw[Nat.mul_comm];have:=hc _ _ f1;rwa [addr_add] at this
 ·rw[Nat.mul_comm];have:=hc _ _ f2;rwa [addr_add] at this
 ·rw[Nat.mul_comm];have:=hc _ _ f3;rwa [addr_add] at this
theorem Cls.le (h:Cls w A ps):ps.length≤9223372036854775807:=h.2
theorem Cls.ext (h:Cls w A ps)(hb:Below w.heap.size w w'):Cls w' A ps:=⟨(Reads.below h.1 hb).more hb.size,h.2⟩
theorem Cls.nil:Cls w A []:=⟨Reads.none_,by simp⟩
end
def OwnC (e:TypeId)(w:World)(base:Nat)(v:Value)(ps:List Cel):Prop:=w.ownsRow base e 3 v ps.length (ps.flatMap celCells)
section
variable {w w' : World} {e : TypeId} {base : Nat} {v : Value} {ps : List Cel}
theorem OwnC.nil (e:TypeId)(w:World)(base:Nat):OwnC e w base (.slice none 0 0) []:=World.ownsRow_nil _ _ _ _
theorem OwnC.cls (h:OwnC e w base v ps):∃ A c,v=.slice A ps.length c∧Cls w A ps∧NewA base A:=own_form h
theorem OwnC.ext (h:OwnC e w base v ps)(hb:Below w.heap.size w w'):OwnC e w' base v ps:=own_below h hb
end
theorem wpList_pushC {P:Program}{wr:World}{ops:Array Oper}{rest:List Oper}{o:Oper}{a:Act}{Q:Exit→Act→World→Prop}(hgd:o.guard=none)(s x:Operand)(t:TypeId)
  (ho:o.op=.call { callee:=.builtin .append,args:=#[s,x],argTypes:=#[t,t] })
  (base:Nat) (e:TypeId) (ht:P.underlying t=some (.slice e)) (hi:(P.info? e).map (fun i=>(i.zero,i.size,i.bytes))=some (some (.agg #[.int .i64 0,.int .i64 0,.int .i64 0]),3,24))
  (v:Value) (ps:List Cel) (hs:a.eval s=v) (hown:OwnC e wr base v ps)
  (p q r:Int) (hx:a.eval x=.slice (some ⟨wr.heap.size,0,none⟩) 1 1)
  (hn:ps.length < 4294967296) (hbase:base≤wr.heap.size)
  (h:∀ v' w',OwnC e w' base v' (ps ++ [⟨p,q,r⟩])→Below base wr w'→wpList P ops Q rest (a.put o.dst v') w') :
  wpList P ops Q (o :: rest) a (wr.alloc (.cells #[.int .i64 p,.int .i64 q,.int .i64 r] e)):=
 wpList_push hgd s x t ho base e _ 3 24 ht hi rfl (by decide) v ps.length _ hs hown [.int .i64 p,.int .i64 q,.int .i64 r] rfl hx (by simp[Value.oneCell']) (by unfold maxLen;omega) (by omega) hbase
  (fun v' w' h1 h2=>h v' w' (by unfold OwnC;rw[List.length_append,List.flatMap_append];exact h1) h2)
end Go.Proofs.YtcfelnhmifkelaaGreatDoor
namespace Go.Proofs.YtcfelnhmifkelaaGreatDoor
open Lib(hid)
set_option linter.unusedSimpArgs false
open Go.RowKit
set_option maxRecDepth 100000
set_option linter.unusedVariables false

def OnlyN (K:Act→World→Prop):Exit→Act→World→Prop
 | .normal,a,w=>K a w
 | _,_,_=>False
theorem OnlyN.not_lets {K:Act→World→Prop}:¬ LetsOut (OnlyN K):=fun ⟨_,_,h⟩=>h
theorem oper_only {P:Program}{o:Oper}{a:Act}{w:World}{K:Act→World→Prop}{Q:Exit→Act→World→Prop}(hh:o.wp P a w K (OnlyN K)):o.wp P a w K Q:=by
 unfold Oper.wp at *;generalize (execOp a.eval o).run P w=r at *;cases r with
 | ok n w'=>
  cases n <;> simp only[Oper.upon] at hh ⊢ <;>
   first
    | exact hh
    | exact Calls.mono hh (fun e w'' he=>by cases e <;> first | exact he | exact (OnlyN.not_lets he).elim | exact (he:False).elim)
 | halt x w'=>cases x <;> simp only[Oper.upon] at hh ⊢ <;> first | exact hh | exact (hh:False).elim
theorem wpOp_of_list {P:Program}{ops:Array Oper}{i:Nat}{o:Oper}{a:Act}{w:World}{K:Act→World→Prop}{Q:Exit→Act→World→Prop}(ho:ops[i]?=some o)
  (h:wpList P ops (OnlyN K) [o] a w):wpOp P ops Q i K a w:=by
 unfold wpOp;rw[ho];simp only;unfold wpList at h
 split
 ·rename_i hw;rw[if_pos hw] at h;rcases h with h | h
  ·exact Or.inl (oper_only h)
  ·exact (OnlyN.not_lets h.2).elim
 ·rename_i hw;rw[if_neg hw] at h;exact h
theorem filter_len_le {α:Type} {p q:α→Bool}:∀ l:List α,(∀ x ∈ l,p x=true→q x=true)→(l.filter p).length≤(l.filter q).length
 | [],_=>Nat.le_refl _
 | x :: l,h=>by
  have ih:=filter_len_le l fun y hy=>h y (List.mem_cons_of_mem _ hy);cases hp:p x
  ·cases hq:q x <;> simp[hp,hq] <;> omega
  ·simp[hp,h x List.mem_cons_self hp];exact ih
theorem filter_len_lt {α:Type} {p q:α→Bool}{i:α}:∀ l:List α,(∀ x ∈ l,p x=true→q x=true)→i ∈ l→p i=false→q i=true→(l.filter p).length < (l.filter q).length
 | [],_,hi,_,_=>by simp at hi
 | x :: l,h,hi,hp,hq=>by
  rcases List.mem_cons.1 hi with rfl | hi
  ·have:=filter_len_le l fun y hy=>h y (List.mem_cons_of_mem _ hy);simp[hp,hq];omega
  ·have ih:=filter_len_lt l (fun y hy=>h y (List.mem_cons_of_mem _ hy)) hi hp hq;cases hpx:p x
   ·cases hqx:q x <;> simp[hpx,hqx] <;> omega
   ·simp[hpx,h x List.mem_cons_self hpx];exact ih
def leftIn (ops:Array Oper)(listed:Array Bool):Nat:=((List.range ops.size).filter fun i=>!listed.getD i true).length
theorem leftIn_set {ops:Array Oper}{listed:Array Bool}{i:Nat}(hi:i < ops.size)(h:listed.getD i true=false):leftIn ops (listed.setIfInBounds i true) < leftIn ops listed:=by
 refine filter_len_lt (i:=i) _ (fun x _ hx=>?_) (by simpa using hi) ?_ (by rw[h];rfl)
 ·by_cases hxi:i=x
  ·subst hxi;rw[h];rfl
  ·rwa [getD_set_ne true hxi] at hx
 ·have hl:i < listed.size:=by
   rcases Nat.lt_or_ge i listed.size with h' | h'
   ·exact h'
   ·simp[Array.getElem?_eq_none h'] at h
  simp[hl]
theorem ready_nil {md:Region.Mode}{ops:Array Oper}{listed:Array Bool}(h:leftIn ops listed=0):Region.ready md ops listed=[]:=by
 apply List.eq_nil_iff_forall_not_mem.2;intro j hj;obtain⟨h0,o,ho,-⟩:=mem_ready.1 hj;have hlt:j < ops.size:=(Array.getElem?_eq_some_iff.1 ho).1;have hn:((List.range ops.size).filter fun i=>!listed.getD i true)=[]:=List.length_eq_zero_iff.1 h;have:j ∈ ((List.range ops.size).filter fun i=>!listed.getD i true):=by
  rw[List.mem_filter];exact⟨by simpa using hlt,by rw[h0];rfl⟩
 rw[hn] at this;cases this
theorem wpAny_J {P:Program}{md:Region.Mode}{ops:Array Oper}{Q:Exit→Act→World→Prop}(J:Array Bool→Act→World→Prop)
  (hstep:∀ i listed a w,i ∈ Region.ready md ops listed→J listed a w→wpOp P ops Q i (J (listed.setIfInBounds i true)) a w)
  (hdone:∀ listed a w,Region.ready md ops listed=[]→J listed a w→Q .normal a w) :
  ∀ fuel listed a w,leftIn ops listed≤fuel→J listed a w→wpAny P md ops Q fuel listed a w
 | 0,listed,a,w,hl,hJ=>by
  have hr:=ready_nil (md:=md) (Nat.le_zero.1 hl);exact⟨hr,hdone _ _ _ hr hJ⟩
 | fuel+1,listed,a,w,hl,hJ=>by
  refine⟨fun hr=>hdone _ _ _ hr hJ,fun i hi=>?_⟩;obtain⟨h0,o,ho,-⟩:=mem_ready.1 hi;have hlt:i < ops.size:=(Array.getElem?_eq_some_iff.1 ho).1;have hs:=leftIn_set (ops:=ops) hlt h0;exact wpOp_mono (fun a' w' h'=>wpAny_J J hstep hdone fuel _ a' w' (by omega) h') (hstep i listed a w hi hJ)
theorem leftIn_le (ops:Array Oper)(listed:Array Bool):leftIn ops listed≤ops.size:=by
 unfold leftIn;refine Nat.le_trans (List.length_filter_le _ _) ?_
 simp
theorem wp_region_J {P:Program}{id:Nat}{ops:Array Oper}{Q:Exit→Act→World→Prop}{a:Act}{w:World}(hm:P.follows .mixedOrders=true)(J:Array Bool→Act→World→Prop)
  (h0:J (Array.replicate ops.size false) a w.drew)
  (hstep:∀ i listed a w,i ∈ Region.ready .any ops listed→J listed a w→wpOp P ops Q i (J (listed.setIfInBounds i true)) a w)
  (hdone:∀ listed a w,Region.ready .any ops listed=[]→J listed a w→Q .normal a w) :
  (Code.region id ops true).wp P Q a w:=
 wp_region_any hm (wpAny_J J hstep hdone _ _ _ _ (leftIn_le _ _) h0)
theorem OnlyN.mk {K:Act→World→Prop}{a:Act}{w:World}(h:K a w):OnlyN K .normal a w:=h
theorem wpOp_hidden {P:Program}{ops:Array Oper}{i:Nat}{o:Oper}{a:Act}{w:World}{J:Act→World→Prop}{Q:Exit→Act→World→Prop}(ho:ops[i]?=some o)
  (h:∀ K:Act→World→Prop,Hid (∀ a w,J a w→K a w)→wpList P ops (OnlyN K) [o] a w):wpOp P ops Q i J a w:=wpOp_of_list ho (h J (hid fun _ _ x=>x))
end Go.Proofs.YtcfelnhmifkelaaGreatDoor
