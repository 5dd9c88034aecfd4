/-
  texts RPrM11 RPars11 RDc11: parts of the proof; conditions stand with each theorem.
-/
import Derived.Test.YtcmbdhopmncmnaaGreatDoorWRHdC
import Derived.Test.YtcmbdhopmncmnaaGreatDoorWG20
import Derived.Test.YtcmbdhopmncmnaaGreatDoorWRRow11
import Derived.Test.YtcmbdhopmncmnaaGreatDoorWG19
import Derived.Test.YtcmbdhopmncmnaaGreatDoorWG14
namespace Go.Proofs.YtcmbdhopmncmnaaGreatDoor
open Go.RowKit Go.Maps
set_option maxRecDepth 100000
set_option linter.unusedVariables false
set_option linter.unusedSimpArgs false
theorem wpList_pushSk {P:Program}{wr:World}{ops:Array Oper}{rest:List Oper}{o:Oper}{a:Act}{Q:Exit→Act→World→Prop}(hgd:o.guard=none)(s x:Operand)(t:TypeId)
  (ho:o.op=.call { callee:=.builtin .append,args:=#[s,x],argTypes:=#[t,t] })
  (base:Nat) (T:TypeId) (ht:P.underlying t=some (.slice T)) (hi:(P.info? T).map (fun i=>(i.zero,i.size,i.bytes))=some (some (.string ⟨#[]⟩),1,16))
  (v:Value) (bs:List ByteArray) (hse:a.eval s=v) (hown:OwnS T wr base v bs)
  (b:ByteArray) (hx:a.eval x=.slice (some ⟨wr.heap.size,0,none⟩) 1 1)
  (hn:bs.length < 1000000000000) (hbase:base≤wr.heap.size)
  (h:∀ v' w',OwnS T w' base v' (bs ++ [b])→Kept (fun g=>v.ownBlock=some g) wr w'→(v'.ownBlock=v.ownBlock∨∃ g,v'.ownBlock=some g∧wr.heap.size≤g)→wpList P ops Q rest (a.put o.dst v') w') :
  wpList P ops Q (o :: rest) a (wr.alloc (.cells #[.string b] T)):=by
 obtain⟨i0,hi0,hz0,hz1,hz2⟩:=info_parts hi;refine wpList_append_own_at _ hgd s x t ho base T i0 _ 1 16 ht hi0 hz0 hz1 hz2 rfl (by decide) v bs.length _ hse (World.ownsRow.alloc hown _) ⟨wr.heap.size,0,none⟩ 1 1 [.string b] hx (by simp) ?_ (by simp[Value.oneCell']) (by unfold maxLen;omega) (by omega) (by simp;omega) ?_
 ·intro j u hu;rw[addr_add];have:(wr.alloc (.cells #[.string b] T)).cell? ⟨wr.heap.size,0+j,none⟩=#[Value.string b][0+j]?:=cell_of_row _ _ _ _ _ _ (heap_alloc_new wr _);rw[this];simpa using hu
 ·intro v' w' hown' hg _ hat;have hk:Kept (fun g=>v.ownBlock=some g) wr w':=((Kept.refl _ wr).alloc _).grown hg fun g hg=>Or.inl hg;refine h v' w' ?_ hk ?_
  ·unfold OwnS;rw[List.length_append,List.map_append];exact hown'
  ·rcases hat with hat | hat
   ·exact .inl hat
   ·exact .inr ⟨_,hat,by simp⟩
theorem Pts.keptN {w w':World}{A:Option Addr}{ps:List (Int × Int)}{S:Nat→Prop}(h:Pts w A ps)(hk:Kept S w w')(hs:∀ ad,A=some ad→0 < ps.length→¬ S ad.block):Pts w' A ps:=by
 refine⟨⟨h.1.1,fun hn=>?_⟩,h.2⟩;obtain⟨ad,e,hb,hc⟩:=h.1.2 hn;refine⟨ad,e,Nat.lt_of_lt_of_le hb hk.below.size,fun j u hj=>?_⟩;have hbl:(ad.add j).block=ad.block:=by unfold Addr.add;split <;> rfl
 rw[← hc j u hj];exact hk.cell (by rw[hbl];exact hb) (by rw[hbl];exact hs ad e hn)
theorem Ints.keptN {w w':World}{A:Option Addr}{zs:List Int}{S:Nat→Prop}(h:Ints w A zs)(hk:Kept S w w')(hs:∀ ad,A=some ad→0 < zs.length→¬ S ad.block):Ints w' A zs:=by
 refine⟨⟨h.1.1,fun hn=>?_⟩,h.2⟩;obtain⟨ad,e,hb,hc⟩:=h.1.2 hn;refine⟨ad,e,Nat.lt_of_lt_of_le hb hk.below.size,fun j u hj=>?_⟩;have hbl:(ad.add j).block=ad.block:=by unfold Addr.add;split <;> rfl
 rw[← hc j u hj];exact hk.cell (by rw[hbl];exact hb) (by rw[hbl];exact hs ad e hn)
theorem Pts.lt {w:World}{ad:Addr}{ps:List (Int × Int)}(h:Pts w (some ad) ps)(hn:0 < ps.length):ad.block < w.heap.size:=by
 obtain⟨b,o,e,hb,-⟩:=h.at_ hn;injection e with e
 rw[e];exact hb
theorem Ints.lt {w:World}{ad:Addr}{zs:List Int}(h:Ints w (some ad) zs)(hn:0 < zs.length):ad.block < w.heap.size:=by
 obtain⟨b,o,e,hb,-⟩:=h.at_ hn;injection e with e
 rw[e];exact hb
def FarB (k Tb:Nat)(vv rv nv:Value):Prop:=Tb < k∧vv.ownBlock≠some k∧rv.ownBlock≠some k∧nv.ownBlock≠some k
structure RfM (base Tb:Nat)(hA:Option Addr)(hc:Nat)(vA:Option Addr)(vc:Nat)(vs:List Vh)(rA:Option Addr)(rc:Nat)(rs:List Rh)(nv:Value)(nb:List ByteArray)(s:PSt)(w:World):Prop where
 hood:Pts w hA s.t.hood
 vars:OwnVR w base (.slice vA vs.length vc) vs
 rows:OwnRZ w base (.slice rA rs.length rc) rs
 rins:∀ x ∈ rs,Ints w x.A x.zs
 evs:vs.map Vh.zs=s.t.vars
 ers:rs.map Rh.rw_=s.t.rows
 own:OwnS 9 w base nv nb
 nms:wdsB nb=s.names
 len:s.names.length=s.t.vars.length
 hg:∀ ad,hA=some ad→0 < s.t.hood.length→FarB ad.block Tb (.slice vA vs.length vc) (.slice rA rs.length rc) nv
 hx:∀ x ∈ rs,∀ ad,x.A=some ad→0 < x.zs.length→FarB ad.block Tb (.slice vA vs.length vc) (.slice rA rs.length rc) nv
 lim:0≤s.t.st∧s.t.hood.length≤9∧vs.length≤40∧rs.length≤400
theorem some_inj11 {a b:Nat}(h:some a=some b):a=b:=by injection h
section
variable {base Tb : Nat} {hA : Option Addr} {hc : Nat} {vA : Option Addr} {vc : Nat} {vs : List Vh} {rA : Option Addr} {rc : Nat} {rs : List Rh} {nv : Value} {nb : List ByteArray} {s : PSt} {w w' : World}
theorem RfM.ext (h:RfM base Tb hA hc vA vc vs rA rc rs nv nb s w)(hb:Below w.heap.size w w'):RfM base Tb hA hc vA vc vs rA rc rs nv nb s w':=
 ⟨h.hood.ext hb,h.vars.ext hb,own_below h.rows hb,fun x hx=>(h.rins x hx).ext hb,h.evs,h.ers,h.own.ext hb,h.nms,h.len,h.hg,h.hx,h.lim⟩
theorem RfM.boxed (h:RfM base Tb hA hc vA vc vs rA rc rs nv nb s w){T:TypeId}{cs:Array Value}(hb:Blk w Tb 26 cs)(hk:Kept (fun k=>k=Tb) w w'):RfM base Tb hA hc vA vc vs rA rc rs nv nb s w':=
 ⟨h.hood.keptN hk (fun ad e hn e2=>Nat.ne_of_gt (h.hg ad e hn).1 e2),h.vars.kept hk (fun g e1 e2=>by subst e2;exact own_blk_ne' h.vars.1 hb (by decide) e1) (fun x hx g e1 e2=>by subst e2;exact own_blk_ne' (h.vars.2 x hx) hb (by decide) e1),
  hk.own h.rows (fun g e1 e2=>by subst e2;exact own_blk_ne' h.rows hb (by decide) e1),fun x hx=>(h.rins x hx).keptN hk (fun ad e hn e2=>Nat.ne_of_gt (h.hx x hx ad e hn).1 e2),h.evs,h.ers,hk.own h.own (fun g e1 e2=>by subst e2;exact own_blk_ne' h.own hb (by decide) e1),h.nms,h.len,h.hg,h.hx,h.lim⟩
theorem RfM.head (h:RfM base Tb hA hc vA vc vs rA rc rs nv nb s w)(hb:Below w.heap.size w w'){hA':Option Addr}{hc':Nat}{s':PSt}(hp:Pts w' hA' s'.t.hood)(hn:(hA'=hA∧s'.t.hood=s.t.hood)∨NewA w.heap.size hA')(hT:Tb < w.heap.size)
  (e1:s'.t.vars=s.t.vars) (e2:s'.t.rows=s.t.rows) (e3:s'.names=s.names) (l1:0≤s'.t.st) (l2:s'.t.hood.length≤9):RfM base Tb hA' hc' vA vc vs rA rc rs nv nb s' w':=by
 have far:∀ k,w.heap.size≤k→FarB k Tb (.slice vA vs.length vc) (.slice rA rs.length rc) nv:=fun k hk=>by
  refine⟨by omega,fun e=>?_,fun e=>?_,fun e=>?_⟩
  ·have:=(own_lt' h.vars.1 e).1;omega
  ·have:=(own_lt' h.rows e).1;omega
  ·have:=(own_lt' h.own e).1;omega
 refine⟨hp,h.vars.ext hb,own_below h.rows hb,fun x hx=>(h.rins x hx).ext hb,by rw[e1];exact h.evs,by rw[e2];exact h.ers,h.own.ext hb,by rw[e3];exact h.nms,by rw[e3,e1];exact h.len,fun ad e hl=>?_,h.hx,⟨l1,l2,h.lim.2.2⟩⟩;rcases hn with ⟨hn,h2⟩ | hn
 ·exact h.hg ad (by rw[← hn];exact e) (by rw[← h2];exact hl)
 ·exact far _ (hn ad e)
theorem RfM.vbl (h:RfM base Tb hA hc vA vc vs rA rc rs nv nb s w)(hk:Kept (fun g=>(Value.slice vA vs.length vc).ownBlock=some g) w w'){vA':Option Addr}{vc':Nat}{x:Vh}(ho:OwnVR w' base (.slice vA' (vs ++ [x]).length vc') (vs ++ [x]))
  (hm:(Value.slice vA' (vs ++ [x]).length vc').ownBlock=(Value.slice vA vs.length vc).ownBlock∨∃ g,(Value.slice vA' (vs ++ [x]).length vc').ownBlock=some g∧w.heap.size≤g) (hl:vs.length < 40)
  {w'':World} {nv':Value} {b:ByteArray} (hk2:Kept (fun g=>nv.ownBlock=some g) w' w'') (ho2:OwnS 9 w'' base nv' (nb ++ [b])) (hm2:nv'.ownBlock=nv.ownBlock∨∃ g,nv'.ownBlock=some g∧w'.heap.size≤g) :
  RfM base Tb hA hc vA' vc' (vs ++ [x]) rA rc rs nv' (nb ++ [b]) ⟨s.head+1,⟨s.t.st,s.t.sym,s.t.hood,s.t.vars ++ [x.zs],s.t.rows⟩,s.names ++ [b.data.toList]⟩ w'':=by
 have hsz:=hk.below.size;have hn1:OwnS 9 w' base nv nb:=hk.own h.own (fun g e1 e2=>own_ne h.own h.vars.1 (by decide) e1 e2);have hr1:OwnRZ w' base (.slice rA rs.length rc) rs:=hk.own h.rows (fun g e1 e2=>own_ne h.rows h.vars.1 (by decide) e1 e2);have fv:∀ k,k < w.heap.size→(Value.slice vA vs.length vc).ownBlock≠some k→(Value.slice vA' (vs ++ [x]).length vc').ownBlock≠some k:=fun k h1 h2 e=>by
  rcases hm with hm | ⟨g,hg,hg2⟩
  ·exact h2 (by rw[← hm];exact e)
  ·rw[hg] at e;have:=some_inj11 e;omega
 have fn:∀ k,k < w.heap.size→nv.ownBlock≠some k→nv'.ownBlock≠some k:=fun k h1 h2 e=>by
  rcases hm2 with hm | ⟨g,hg,hg2⟩
  ·exact h2 (by rw[← hm];exact e)
  ·rw[hg] at e;have:=some_inj11 e;omega
 have far:∀ k,k < w.heap.size→FarB k Tb (.slice vA vs.length vc) (.slice rA rs.length rc) nv→FarB k Tb (.slice vA' (vs ++ [x]).length vc') (.slice rA rs.length rc) nv':=fun k h1 h2=>⟨h2.1,fv k h1 h2.2.1,h2.2.2.1,fn k h1 h2.2.2.2⟩
 refine⟨(h.hood.keptN hk (fun ad e hn=>(h.hg ad e hn).2.1)).keptN hk2 (fun ad e hn=>(h.hg ad e hn).2.2.2),ho.kept hk2 (fun g e1 e2=>own_ne ho.1 hn1 (by decide) e1 e2) (fun y hy g e1 e2=>own_ne (ho.2 y hy) hn1 (by decide) e1 e2),hk2.own hr1 (fun g e1 e2=>own_ne hr1 hn1 (by decide) e1 e2),
  fun y hy=>((h.rins y hy).keptN hk (fun ad e hn=>(h.hx y hy ad e hn).2.1)).keptN hk2 (fun ad e hn=>(h.hx y hy ad e hn).2.2.2),by rw[List.map_append,h.evs];rfl,h.ers,ho2,by dsimp only;rw[← h.nms];unfold wdsB;rw[List.map_append];rfl,by rw[List.length_append,List.length_append,h.len];rfl,
  fun ad e hl=>far _ ?_ (h.hg ad e hl),fun y hy ad e hl=>far _ ?_ (h.hx y hy ad e hl),⟨h.lim.1,h.lim.2.1,by rw[List.length_append];exact hl,h.lim.2.2.2⟩⟩
 ·subst e;exact h.hood.lt hl
 ·have:=h.rins y hy;rw[e] at this;exact this.lt hl
theorem RfM.row (h:RfM base Tb hA hc vA vc vs rA rc rs nv nb s w)(hk:Kept (fun g=>(Value.slice rA rs.length rc).ownBlock=some g) w w'){rA':Option Addr}{rc':Nat}{x:Rh}(ho:OwnRZ w' base (.slice rA' (rs ++ [x]).length rc') (rs ++ [x]))(hi:Ints w' x.A x.zs)
  (hxn:∀ ad,x.A=some ad→w.heap.size≤ad.block∧(Value.slice rA' (rs ++ [x]).length rc').ownBlock≠some ad.block) (hT:Tb < w.heap.size)
  (hm:(Value.slice rA' (rs ++ [x]).length rc').ownBlock=(Value.slice rA rs.length rc).ownBlock∨∃ g,(Value.slice rA' (rs ++ [x]).length rc').ownBlock=some g∧w.heap.size≤g) (hl:rs.length < 400) :
  RfM base Tb hA hc vA vc vs rA' rc' (rs ++ [x]) nv nb ⟨s.head+1,⟨s.t.st,s.t.sym,s.t.hood,s.t.vars,s.t.rows ++ [x.rw_]⟩,s.names⟩ w':=by
 have hn1:OwnS 9 w' base nv nb:=hk.own h.own (fun g e1 e2=>own_ne h.own h.rows (by decide) e1 e2);have fr:∀ k,k < w.heap.size→(Value.slice rA rs.length rc).ownBlock≠some k→(Value.slice rA' (rs ++ [x]).length rc').ownBlock≠some k:=fun k h1 h2 e=>by
  rcases hm with hm | ⟨g,hg,hg2⟩
  ·exact h2 (by rw[← hm];exact e)
  ·rw[hg] at e;have:=some_inj11 e;omega
 have far:∀ k,k < w.heap.size→FarB k Tb (.slice vA vs.length vc) (.slice rA rs.length rc) nv→FarB k Tb (.slice vA vs.length vc) (.slice rA' (rs ++ [x]).length rc') nv:=fun k h1 h2=>⟨h2.1,h2.2.1,fr k h1 h2.2.2.1,h2.2.2.2⟩
 refine⟨h.hood.keptN hk (fun ad e hn=>(h.hg ad e hn).2.2.1),h.vars.kept hk (fun g e1 e2=>own_ne h.vars.1 h.rows (by decide) e1 e2) (fun y hy g e1 e2=>own_ne (h.vars.2 y hy) h.rows (by decide) e1 e2),ho,fun y hy=>?_,h.evs,by rw[List.map_append,h.ers];rfl,hn1,h.nms,h.len,fun ad e hl=>far _ ?_ (h.hg ad e hl),fun y hy ad e hl=>?_,⟨h.lim.1,h.lim.2.1,h.lim.2.2.1,by rw[List.length_append];exact hl⟩⟩
 ·rcases List.mem_append.1 hy with hy | hy
  ·exact (h.rins y hy).keptN hk (fun ad e hn=>(h.hx y hy ad e hn).2.2.1)
  ·rw[List.mem_singleton.1 hy];exact hi
 ·subst e;exact h.hood.lt hl
 ·rcases List.mem_append.1 hy with hy | hy
  ·refine far _ ?_ (h.hx y hy ad e hl);have:=h.rins y hy;rw[e] at this;exact this.lt hl
  ·rw[List.mem_singleton.1 hy] at e;obtain⟨h1,h2⟩:=hxn ad e;refine⟨by omega,fun e3=>?_,h2,fun e3=>?_⟩
   ·have:=(own_lt' h.vars.1 e3).1;omega
   ·have:=(own_lt' h.own e3).1;omega
end
theorem vbl_lt {s:PSt}{W:List Wd}(h:(vblW s W).2=0):s.t.vars.length < 40:=by
 unfold vblW at h
 split at h
 ·cases h
 split at h
 ·cases h
 split at h
 ·cases h
 split at h
 ·cases h
 split at h
 ·cases h
 split at h
 ·cases h
 split at h
 ·cases h
 ·omega
theorem row_lt {s:PSt}{W:List Wd}(h:(rowW s W).2=0):s.t.rows.length < 400:=by
 unfold rowW at h
 split at h
 ·cases h
 split at h
 ·rename_i h2;exact absurd h h2
 split at h
 ·cases h
 split at h
 ·cases h
 ·omega
theorem hoodsP_len (k:Nat):(hoodsP.getD k []).length≤9:=by
 match k with
 | 0=>decide
 | 1=>decide
 | 2=>decide
 | 3=>decide
 | k+4=>
  rw[List.getD_eq_getElem?_getD,List.getElem?_eq_none (by show 4≤k+4;omega)];exact Nat.zero_le _
theorem head_inv {s:PSt}{W:List Wd}(hs:s.head < 3)(h:(headW s W).2=0)(l1:0≤s.t.st)(l2:s.t.hood.length≤9) :
  (headW s W).1.head=s.head+1∧(headW s W).1.names=s.names∧(headW s W).1.t.vars=s.t.vars∧(headW s W).1.t.rows=s.t.rows∧0≤(headW s W).1.t.st∧(headW s W).1.t.hood.length≤9:=by
 unfold headW at h ⊢
 split at h
 ·cases h
 rename_i h1;rw[if_neg h1];by_cases h0:s.head=0
 ·rw[if_pos h0] at h ⊢
  split at h
  ·cases h
  rename_i h2;rw[if_neg h2]
  split at h
  ·cases h
  rename_i h3;rw[if_neg h3];exact⟨by show 1=s.head+1;omega,rfl,rfl,rfl,by dsimp only;omega,l2⟩
 ·rw[if_neg h0] at h ⊢;by_cases h01:s.head=1
  ·rw[if_pos h01] at h ⊢;cases hp:placeW (W.getD 1 []) 0 hoodsW with
   | none=>rw[hp] at h;cases h
   | some k=>exact⟨by show 2=s.head+1;omega,rfl,rfl,rfl,l1,hoodsP_len k⟩
  ·rw[if_neg h01] at h ⊢;cases hp:placeW (W.getD 1 []) 0 symsW with
   | none=>rw[hp] at h;cases h
   | some k=>
    rw[hp] at h;dsimp only at h ⊢
    split at h
    ·cases h
    rename_i h5;rw[if_neg h5];exact⟨by show 3=s.head+1;omega,rfl,rfl,rfl,l1,l2⟩
theorem RfM.low {base Tb:Nat}{hA:Option Addr}{hc:Nat}{vA:Option Addr}{vc:Nat}{vs:List Vh}{rA:Option Addr}{rc:Nat}{rs:List Rh}{nv:Value}{nb:List ByteArray}{s:PSt}{w w':World}{R:Nat}(h:RfM base Tb hA hc vA vc vs rA rc rs nv nb s w)(hk:Kept (fun k=>k=R) w w')(hR:R < base)(hT:R < Tb):RfM base Tb hA hc vA vc vs rA rc rs nv nb s w':=by
 have far:∀ {T:TypeId} {z:Nat} {v:Value} {n:Nat} {cs:List Value},w.ownsRow base T z v n cs→∀ g,v.ownBlock=some g→¬ g=R:=fun ho g e e2=>by have:=(own_lt' ho e).2;omega
 exact⟨h.hood.keptN hk (fun ad e hn e2=>by have:=(h.hg ad e hn).1;have e3:ad.block=R:=e2;omega),h.vars.kept hk (far h.vars.1) (fun x hx=>far (h.vars.2 x hx)),hk.own h.rows (far h.rows),fun x hx=>(h.rins x hx).keptN hk (fun ad e hn e2=>by have:=(h.hx x hx ad e hn).1;have e3:ad.block=R:=e2;omega),h.evs,h.ers,hk.own h.own (far h.own),h.nms,h.len,h.hg,h.hx,h.lim⟩
theorem vbl_len {s:PSt}{W:List Wd}(h:(vblW s W).2=0):3≤W.length:=by
 unfold vblW at h
 split at h
 ·cases h
 split at h
 ·cases h
 ·rename_i h2;exact Nat.le_of_not_lt (fun h3=>h2 (.inl h3))
theorem results_ctt {P:Program}{fn:Func}{p u v:Tmp}{ty:TypeId}{d:TypeDesc}{g:Nat}{t:TypeId}{cs:Array Value}{fr:Nat × Nat}{w:World}(h:fn.results=#[.cell p ty,.tmp u,.tmp v])(tmps:Array Value)
  (hp:tmps.getD p undef=.pointer (some ⟨g,0,none⟩)) (hg:w.heap[g]?=some (.cells cs t fr)) (hup:P.underlying ty=some d) (hd:(match d with | .struct _ | .array _ _=>true | _=>false)=true) (hi:(P.info? ty).map (·.size)=some cs.size) :
  (results fn tmps).run P w=.ok (.tuple #[.agg cs,tmps.getD u undef,tmps.getD v undef]) w:=by
 have hp':tmps[p]?.getD undef=.pointer (some ⟨g,0,none⟩):=by simpa using hp
 simp[results,h,hp',asAddr,run_loadVar_row w g t ty cs fr d hg hup hd hi,Sem.run_bind,Result.andThen]
end Go.Proofs.YtcmbdhopmncmnaaGreatDoor
namespace Go.Proofs.YtcmbdhopmncmnaaGreatDoor
open Lib(hid)
open Go.RowKit Go.Maps
set_option maxRecDepth 100000
set_option linter.unusedVariables false
set_option linter.unusedSimpArgs false
def RetTblR (r:TabL × Int × Int)(w:World)(e:Ending)(w':World):Prop:=∃ hA hc vA vc rA rc t,e=.returned (.tuple #[tabV hA hc vA vc rA rc t,.int .i64 r.2.1,.int .i64 r.2.2])∧TabR w' hA vA rA t∧t.tab=r.1∧Below w.heap.size w w'
theorem rhead_any (st:PSt)(h3:st.head < 3)(hA:Option Addr)(hc:Nat)(vA:Option Addr)(vn vc:Nat)(rA:Option Addr)(rn rc:Nat)(A:Option Addr)(wc:Nat)(ws:List ByteArray)(w:World)(hH:Pts w hA st.t.hood)(hS:Sts w A ws)(hw:∀ x ∈ ws,x.size≤2147483648)(hlen:ws≠[]) :
  Calls Tryz.prog 51 #[.agg #[.int .i64 st.t.st,.int .i64 st.t.sym,.slice hA st.t.hood.length hc,.slice vA vn vc,.slice rA rn rc],.int .i64 (st.head:Int),.slice A ws.length wc] w (HdPost hA st.t.hood vA vn vc rA rn rc st.t.vars st.t.rows (headW st (wdsB ws)) w):=by
 obtain⟨hd,t,nm⟩:=st;dsimp only at *;obtain rfl | rfl | rfl:hd=0∨hd=1∨hd=2:=by omega
 ·exact rhead_0 t nm hA hc vA vn vc rA rn rc A wc ws w hH hS hw hlen
 ·exact rhead_1 t nm hA hc vA vn vc rA rn rc A wc ws w hH hS hw hlen
 ·exact rhead_2 t nm hA hc vA vn vc rA rn rc A wc ws w hH hS hw hlen
theorem read_nil {s:PSt}{i:Nat}{l:List UInt8}{r:List (List UInt8)}(h:wordsL l=[]):readW s i (l :: r)=readW s (i+1) r:=if_pos h
theorem read_err {s:PSt}{i:Nat}{l:List UInt8}{r:List (List UInt8)}(h:wordsL l≠[])(h2:(stepW s (wordsL l)).2≠0):readW s i (l :: r)=(zero11,(i:Int)+1,(stepW s (wordsL l)).2):=by
 show (if wordsL l=[] then _ else if (stepW s (wordsL l)).2≠0 then _ else _)=_;rw[if_neg h,if_pos h2]
theorem read_ok {s:PSt}{i:Nat}{l:List UInt8}{r:List (List UInt8)}(h:wordsL l≠[])(h2:(stepW s (wordsL l)).2=0):readW s i (l :: r)=readW (stepW s (wordsL l)).1 (i+1) r:=by
 show (if wordsL l=[] then _ else if (stepW s (wordsL l)).2≠0 then _ else _)=_;rw[if_neg h,if_neg (by rw[h2];simp)]
theorem RfM.zero (w:World)(base Tb:Nat):RfM base Tb none 0 none 0 [] none 0 [] (.slice none 0 0) [] PSt.zero w:=
 ⟨Pts.nil,OwnV.nil _ _ _ _,OwnR0.nil _ _ _,fun _ h=>absurd h (by simp),rfl,rfl,OwnS.nil _ _ _,rfl,rfl,fun _ h=>(by cases h),fun _ h=>absurd h (by simp),⟨by decide,by decide,by decide,by decide⟩⟩
theorem ret_zero {w W:World}{n c:Int}(hb:Below w.heap.size w W):RetTblR (zero11,n,c) w (.returned (.tuple #[.agg #[.int .i64 0,.int .i64 0,.slice none 0 0,.slice none 0 0,.slice none 0 0],.int .i64 n,.int .i64 c])) W:=
 ⟨none,0,none,0,none,0,⟨0,0,[],[],[]⟩,rfl,⟨Pts.nil,Vrs.nil,Rws.nil⟩,rfl,hb⟩
theorem RfM.tabr {base Tb:Nat}{hA:Option Addr}{hc:Nat}{vA:Option Addr}{vc:Nat}{vs:List Vh}{rA:Option Addr}{rc:Nat}{rs:List Rh}{nv:Value}{nb:List ByteArray}{s:PSt}{w:World}(h:RfM base Tb hA hc vA vc vs rA rc rs nv nb s w) :
  TabR w hA vA rA ⟨s.t.st,s.t.sym,s.t.hood,vs,rs⟩∧(⟨s.t.st,s.t.sym,s.t.hood,vs,rs⟩:TabH).tab=s.t:=by
 obtain⟨vA',vc',ev,hvr,-⟩:=h.vars.vrs;injection ev with ev1 ev2 ev3
 subst ev1;refine⟨⟨h.hood,hvr,OwnR0.rws h.rows (Below.refl _ _) h.rins⟩,?_⟩;unfold TabH.tab;dsimp only;rw[h.evs,h.ers]
theorem ln_bounds {s:ByteArray}{ls:List ByteArray}(hs:s.size≤65536)(he:wdsB ls=lines11 s.data.toList):ls.length≤65537∧∀ x ∈ ls,x.size≤65536∧∀ ws:List ByteArray,wdsB ws=wordsL x.data.toList→ws.length≤65537∧∀ y ∈ ws,y.size≤65536:=by
 obtain⟨h1,h2⟩:=lines_len s.data.toList;have hsz:s.data.toList.length=s.size:=rfl;have hl:(wdsB ls).length=ls.length:=by unfold wdsB;rw[List.length_map]
 refine⟨by rw[← hl,he];omega,fun x hx=>?_⟩;have hm:x.data.toList ∈ lines11 s.data.toList:=by rw[← he];exact List.mem_map.2 ⟨x,hx,rfl⟩
 have h3:=h2 _ hm;have hxs:x.data.toList.length=x.size:=rfl;refine⟨by omega,fun ws hw=>?_⟩;obtain⟨h4,h5⟩:=words_bound x.data.toList;have hwl:(wdsB ws).length=ws.length:=by unfold wdsB;rw[List.length_map]
 refine⟨by rw[← hwl,hw];omega,fun y hy=>?_⟩;have hm2:y.data.toList ∈ wordsL x.data.toList:=by rw[← hw];exact List.mem_map.2 ⟨y,hy,rfl⟩
 have h6:=h5 _ hm2;have hys:y.data.toList.length=y.size:=rfl;omega
theorem meas_p {i n:Nat}(h:i < n):n - (intOf (.int .i64 ((i:Int)+1))).toNat < n - (intOf (.int .i64 (i:Int))).toNat:=by
 simp[intOf];omega
theorem wrap_p {i n:Nat}(h:i≤n)(hn:n≤65537):wrap64 ((i:Int)+1)=(i:Int)+1:=by unfold wrap64;omega
theorem wds_nil {ws:List ByteArray}:wdsB ws=[]→ws=[]:=by cases ws <;> simp[wdsB]
set_option maxHeartbeats 16000000 in
theorem rparse_any (s:ByteArray)(w:World)(hs:s.size≤65536) :
  Calls Tryz.prog 19 #[.string s] w (RetTblR (parse11 s.data.toList) w):=by
 obtain⟨R,hR⟩:∃ R,R=w.heap.size:=⟨_,rfl⟩
 obtain⟨w1,hw1⟩:∃ W,W=w.alloc (.cells #[.int .i64 0,.int .i64 0,.slice none 0 0,.slice none 0 0,.slice none 0 0] 26):=⟨_,rfl⟩
 have hb1:Below w.heap.size w w1:=by rw[hw1];exact below_new _ _
 have p1:Blk w1 R 26 #[.int .i64 0,.int .i64 0,.slice none 0 0,.slice none 0 0,.slice none 0 0]:=by rw[hw1,hR];exact Blk.new w _ _
 have dsz:decide ((65536:Int) < (s.size:Int))=false:=decide_eq_false (by omega);have HLN:=hid (rlines_any s w1 (by omega));obtain⟨res,hres⟩:∃ r,r=parse11 s.data.toList:=⟨_,rfl⟩
 rw[← hres];unfold parse11 at hres;rw[if_neg (by show ¬ 65536 < s.size;omega)] at hres;have HRES0:=hid hres;have HP1:=hid p1;have HB1:=hid hb1;have HR:=hid hR;have HW1:=hid hw1;have HSZ:=hid hs;clear hres hR hw1 hb1 p1 hs;go_enter Tryz.func19,Tryz.ntmps19;go_upto_region 1 with fail
 rw[← HR.out];rw[← HW1.out];go_wp2_with (go_at_call 49;refine HLN.out.mono ?_;rintro e w2 ⟨lA,lc,ls,rfl,hs2,he2,-,hb2⟩;refine Hid.out ?_);refine hid ?_;have HS2:=hid hs2;have HLB:=hid (ln_bounds HSZ.out he2);have HR2:=hid (HP1.out.below hb2 HP1.out.lt);have HB2:Hid (Below w.heap.size w w2):=hid (HB1.out.trans (hb2.mono HB1.out.size));have HRES:Hid (readW PSt.zero 0 (wdsB ls)=res):=hid (by rw[he2,HRES0.out]);have h9:ls.length≤9223372036854775807:=hs2.le;clear hs2 he2 hb2 dsz;obtain⟨B,hB⟩:∃ B,B=w2.heap.size:=⟨_,rfl⟩
 obtain⟨w3,hw3⟩:∃ W,W=w2.alloc (.cells #[.int .i64 0,.int .i64 0,.slice none 0 0,.slice none 0 0,.slice none 0 0] 26):=⟨_,rfl⟩
 have hb3:Below B w2 w3:=by rw[hw3,hB];exact below_new _ _
 have p3:Blk w3 B 26 #[.int .i64 0,.int .i64 0,.slice none 0 0,.slice none 0 0,.slice none 0 0]:=by rw[hw3,hB];exact Blk.new w2 _ _
 have HRB:Hid (R < B):=hid (by rw[hB];exact HR2.out.lt);have HS3:Hid (∀ W,Below B w2 W→Sts W lA ls∧Blk W R 26 #[.int .i64 0,.int .i64 0,.slice none 0 0,.slice none 0 0,.slice none 0 0]):=hid (fun W h=>by rw[hB] at h;exact⟨HS2.out.ext h,HR2.out.below h HR2.out.lt⟩);have HP3:=hid p3;have HB3:=hid hb3;have HBE:=hid hB;have HW3:=hid hw3;clear hB hw3 hb3 p3;go_upto_region 7 with fail
 rw[← HBE.out];rw[← HW3.out];go_wp2;go_loopw [7,8,9] (fun nv sv iv wr=>∃ (i:Nat) (st:PSt) (hA:Option Addr) (hc:Nat) (vA:Option Addr) (vc:Nat) (vs:List Vh) (rA:Option Addr) (rc:Nat) (rs:List Rh) (nA:Option Addr) (nc:Nat) (nb:List ByteArray),i≤ls.length∧iv=.int .i64 i∧sv=.int .i64 (st.head:Int)∧nv=.slice nA nb.length nc∧Hid (RfM B B hA hc vA vc vs rA rc rs (.slice nA nb.length nc) nb st wr)∧Hid (Blk wr B 26 #[.int .i64 st.t.st,.int .i64 st.t.sym,.slice hA st.t.hood.length hc,.slice vA vs.length vc,.slice rA rs.length rc])∧Hid (Below B w2 wr)∧Hid (readW st i ((wdsB ls).drop i)=res)∧Hid (st.head≤i)) (fun _ _ iv _=>ls.length - (intOf iv).toNat)
 case atStart=>exact⟨0,PSt.zero,none,0,none,0,[],none,0,[],none,0,[],Nat.zero_le _,rfl,rfl,rfl,hid (RfM.zero _ _ _),HP3,HB3,hid (by rw[List.drop_zero];exact HRES.out),hid (Nat.le_refl _)⟩
 case round=>
  obtain⟨i,st,hA,hc,vA,vc,vs,rA,rc,rs,nA,nc,nb,hi,rfl,rfl,rfl,HM,HT,HB,HRD,HHI⟩:=hrel;by_cases hil:i < ls.length
  ·obtain⟨gb,go,e1,-,cli⟩:=(HS3.out wr HB.out).1.at_ hil;subst e1;have hdrop:(wdsB ls).drop i=(ls[i]'hil).data.toList :: (wdsB ls).drop (i+1):=by
    have hl:i < (wdsB ls).length:=by unfold wdsB;rw[List.length_map];exact hil
    rw[List.drop_eq_getElem_cons hl]
    congr 1
    exact wdsB_get hil hl
   have hbd:=HLB.out.2 _ (List.getElem_mem hil);obtain⟨x,hx⟩:∃ z,z=ls[i]'hil:=⟨_,rfl⟩
   rw[← hx] at cli hdrop hbd;have hrd:=HRD.out;rw[hdrop] at hrd;have HRD2:=hid hrd;have HWB:=hid hbd.2;have HI:=hid hil;have hiI:=int_lt hil;have hwi:=wrap_p (Nat.le_of_lt hil) HLB.out.1;have HWI:=hid hwi;have HWD:=hid (rwords_any x wr (Nat.le_trans hbd.1 (by decide)));clear hdrop hx hrd hi hbd;go_wp2_with (go_at_call 50;refine HWD.out.mono ?_;rintro e w4 ⟨A,wc,ws,rfl,hs4,he4,hn4,hb4⟩;refine Hid.out ?_);refine hid ?_;have HE4:=hid he4;have HNA:=hid hn4;have HWO:Hid (∀ g,(Value.slice vA vs.length vc).ownBlock=some g∨(Value.slice rA rs.length rc).ownBlock=some g→g < wr.heap.size):=hid (fun g h=>h.elim (fun h=>(own_lt' HM.out.vars.1 h).1) (fun h=>(own_lt' HM.out.rows h).1));have HS4:=hid hs4;have HWS:=hid (HWB.out ws he4);have HM4:=hid (HM.out.ext hb4);have HT4:=hid (HT.out.below hb4 HT.out.lt);have HB4:Hid (Below B w2 w4):=hid (HB.out.trans (hb4.mono (Nat.le_of_lt HT.out.lt)));have hw9:ws.length≤9223372036854775807:=hs4.le;clear hs4 he4 hn4 hb4 HM HT HB HWD cli hil;by_cases hwn:ws.length=0
   ·have q0:((ws.length:Int) == 0)=true:=by rw[beq_iff_eq];omega
    have hwl:wordsL x.data.toList=[]:=by rw[← HE4.out];rw[List.eq_nil_of_length_eq_zero hwn];rfl
    have HRD3:=hid ((read_nil hwl).symm.trans HRD2.out);clear hwl hwn;go_wp2;go_roundw
    case rel=>exact⟨i+1,st,hA,hc,vA,vc,vs,rA,rc,rs,nA,nc,nb,HI.out,(by first | rfl | (rw[HWI.out];done) | (rw[HWI.out];rfl)),rfl,rfl,HM4,HT4,HB4,HRD3,hid (Nat.le_succ_of_le HHI.out)⟩
    case measure=>(try rw[HWI.out]);exact meas_p HI.out
   ·have q0:((ws.length:Int) == 0)=false:=beq_false_of_ne (by omega);have hwne:ws≠[]:=fun e=>hwn (by rw[e];rfl);have hwl:wordsL x.data.toList≠[]:=by rw[← HE4.out];exact fun e=>hwne (wds_nil e)
    have HWL:=hid hwl;have HNE:=hid hwne;have hsd:=wrap_p (Nat.le_trans HHI.out (Nat.le_of_lt HI.out)) HLB.out.1;have HSD:=hid hsd;clear hwn hwl hwne;have t0:=HT4.out.cell_ 0 (.int .i64 st.t.st) rfl;have t1:=HT4.out.cell_ 1 (.int .i64 st.t.sym) rfl;have t2:=HT4.out.cell_ 2 (.slice hA st.t.hood.length hc) rfl;have t3:=HT4.out.cell_ 3 (.slice vA vs.length vc) rfl;have t4:=HT4.out.cell_ 4 (.slice rA rs.length rc) rfl;go_upto_region 13 with fail
    clear t0 t1 t2 t3 t4;obtain⟨N,hN⟩:∃ N,N=w4.heap.size:=⟨_,rfl⟩
    obtain⟨w5,hw5⟩:∃ W,W=w4.alloc (.cells #[.int .i64 st.t.st,.int .i64 st.t.sym,.slice hA st.t.hood.length hc,.slice vA vs.length vc,.slice rA rs.length rc] 26):=⟨_,rfl⟩
    rw[← hw5,← hN];have hb5:Below w4.heap.size w4 w5:=by rw[hw5];exact below_new _ _
    have HN5:Hid (Blk w5 N 26 #[.int .i64 st.t.st,.int .i64 st.t.sym,.slice hA st.t.hood.length hc,.slice vA vs.length vc,.slice rA rs.length rc]):=hid (by rw[hw5,hN];exact Blk.new w4 _ _);have HM5:=hid (HM4.out.ext hb5);have HT5:=hid (HT4.out.below hb5 HT4.out.lt);have HS5:=hid (HS4.out.ext hb5);have HB5:=hid hb5;have HNE4:=hid hN;clear hw5 hN hb5;by_cases h3:st.head < 3
    ·have q3:decide ((st.head:Int) < 3)=true:=decide_eq_true (by omega);have hstep:stepW st (wdsB ws)=headW st (wdsB ws):=if_pos h3;rw[HE4.out] at hstep;have HSTEP:=hid hstep;have HC:=hid (rhead_any st h3 hA hc vA vs.length vc rA rs.length rc A wc ws w5 HM5.out.hood HS5.out (fun y hy=>Nat.le_trans (HWS.out.2 y hy) (by decide)) HNE.out);rw[HE4.out] at HC;have HH3:=hid h3;clear hstep h3;have t0:=HT5.out.cell_ 0 (.int .i64 st.t.st) rfl;have t1:=HT5.out.cell_ 1 (.int .i64 st.t.sym) rfl;have t2:=HT5.out.cell_ 2 (.slice hA st.t.hood.length hc) rfl;have t3:=HT5.out.cell_ 3 (.slice vA vs.length vc) rfl;have t4:=HT5.out.cell_ 4 (.slice rA rs.length rc) rfl;go_wp2_with (go_at_call 51;refine HC.out.mono ?_;rintro e w6 ⟨st',sy',hA',hc',hd',rfl,hb6,hp6,hn6,hok⟩;have HN6b:=hid (HN5.out.below hb6 HN5.out.lt);have m0:=HN6b.out.cell_ 0 (.int .i64 st.t.st) rfl;have m1:=HN6b.out.cell_ 1 (.int .i64 st.t.sym) rfl;have m2:=HN6b.out.cell_ 2 (.slice hA st.t.hood.length hc) rfl;have m3:=HN6b.out.cell_ 3 (.slice vA vs.length vc) rfl;have m4:=HN6b.out.cell_ 4 (.slice rA rs.length rc) rfl;have f0:=HN6b.out.frozen 0;have f1:=HN6b.out.frozen 1;have f2:=HN6b.out.frozen 2;have f3:=HN6b.out.frozen 3;have f4:=HN6b.out.frozen 4;refine Hid.out ?_);refine hid ?_;have HB6:=hid hb6;have HP6:=hid hp6;have HN6:=hid hn6;have HOK:=hid hok;clear hb6 hp6 hn6 hok;go_upto_region 18 with fail
     obtain⟨w7,hw7⟩:∃ W,W=set5 w6 N (.int .i64 st') (.int .i64 sy') (.slice hA' hd'.length hc') (.slice vA vs.length vc) (.slice rA rs.length rc):=⟨_,rfl⟩
     have hw7':=hw7;unfold set5 at hw7';rw[← hw7'];clear hw7';have HN7:Hid (Blk w7 N 26 #[.int .i64 st',.int .i64 sy',.slice hA' hd'.length hc',.slice vA vs.length vc,.slice rA rs.length rc]):=hid (by rw[hw7];exact set5_blk HN6b.out (.int .i64 st') (.int .i64 sy') (.slice hA' hd'.length hc') (.slice vA vs.length vc) (.slice rA rs.length rc));have hb47:Below w4.heap.size w4 w7:=by rw[hw7];exact set5_below (HB5.out.trans (HB6.out.mono HB5.out.size)) (by rw[HNE4.out];exact Nat.le_refl _) (.int .i64 st') (.int .i64 sy') (.slice hA' hd'.length hc') (.slice vA vs.length vc) (.slice rA rs.length rc)
     have hp7:Pts w7 hA' hd':=by
      rw[hw7];refine HP6.out.keptN (set5_kept w6 N (.int .i64 st') (.int .i64 sy') (.slice hA' hd'.length hc') (.slice vA vs.length vc) (.slice rA rs.length rc)) (fun ad e hl e2=>?_);rcases HN6.out with ⟨h1,h2⟩ | h1
      ·have h3:=HM4.out.hood;rw[← h1,e,← h2] at h3;have h4:=h3.lt hl;have h5:ad.block=N:=e2;rw[h5,HNE4.out] at h4;exact Nat.lt_irrefl _ h4
      ·have h4:=h1 ad e;have h5:ad.block=N:=e2;have h6:=HN5.out.lt;omega
     have HP7:=hid hp7;have HA7:Hid ((hA'=hA∧hd'=st.t.hood)∨NewA w4.heap.size hA'):=hid (HN6.out.imp id (fun h ad e=>Nat.le_trans HB5.out.size (h ad e)));have HB47:=hid hb47;have HT7:=hid (HT4.out.below hb47 HT4.out.lt);have HB7:Hid (Below B w2 w7):=hid (HB4.out.trans (hb47.mono (Nat.le_of_lt HT4.out.lt)));have HR7:=hid (HS3.out w7 HB7.out).2;clear hw7 hb47 hp7;obtain⟨cd,hcd⟩:∃ c,c=(headW st (wordsL x.data.toList)).2:=⟨_,rfl⟩
     rw[← hcd];by_cases hc0:cd=0
     ·have q1:(cd != 0)=false:=by rw[hc0];rfl
      have hcd0:(headW st (wordsL x.data.toList)).2=0:=by rw[← hcd];exact hc0
      have hinv:=head_inv HH3.out hcd0 HM4.out.lim.1 HM4.out.lim.2.1;have hok:=HOK.out hcd0;have hrd:=(read_ok (i:=i) (r:=(wdsB ls).drop (i+1)) HWL.out (by rw[HSTEP.out];exact hcd0)).symm.trans HRD2.out;rw[HSTEP.out] at hrd;obtain⟨s',hs'⟩:∃ z,z=(headW st (wordsL x.data.toList)).1:=⟨_,rfl⟩
      rw[← hs'] at hinv hok hrd;obtain⟨i1,i2,i3,i4,i5,i6⟩:=hinv;have hhd:s'.t.hood=hd':=by rw[hok]
      have HM8:=hid ((HM4.out.head (hc':=hc') (s':=s') HB47.out (by rw[hhd];exact HP7.out) (by rw[hhd];exact HA7.out) HT4.out.lt i3 i4 i2 i5 i6).boxed (T:=26) HT7.out (set5_kept w7 B (.int .i64 st') (.int .i64 sy') (.slice hA' hd'.length hc') (.slice vA vs.length vc) (.slice rA rs.length rc)));have HT8:Hid (Blk (set5 w7 B (.int .i64 st') (.int .i64 sy') (.slice hA' hd'.length hc') (.slice vA vs.length vc) (.slice rA rs.length rc)) B 26 #[.int .i64 s'.t.st,.int .i64 s'.t.sym,.slice hA' s'.t.hood.length hc',.slice vA vs.length vc,.slice rA rs.length rc]):=hid (by rw[hok];exact set5_blk HT7.out (.int .i64 st') (.int .i64 sy') (.slice hA' hd'.length hc') (.slice vA vs.length vc) (.slice rA rs.length rc));have HB8:Hid (Below B w2 (set5 w7 B (.int .i64 st') (.int .i64 sy') (.slice hA' hd'.length hc') (.slice vA vs.length vc) (.slice rA rs.length rc))):=hid (set5_below HB7.out (Nat.le_refl B) (.int .i64 st') (.int .i64 sy') (.slice hA' hd'.length hc') (.slice vA vs.length vc) (.slice rA rs.length rc));have hnv:¬ ((nb.length:Int) < (vs.length:Int)):=by
       have e1:(wdsB nb).length=nb.length:=by unfold wdsB;rw[List.length_map]
       have e2:st.t.vars.length=vs.length:=by rw[← HM4.out.evs,List.length_map]
       have e3:=HM4.out.len;rw[← HM4.out.nms,e1,e2] at e3;omega
      have HRD3:=hid hrd;have HHD:Hid (((s'.head:Nat):Int)=(st.head:Int)+1∧s'.head≤i+1):=hid ⟨by rw[i1];rfl,by rw[i1];exact Nat.succ_le_succ HHI.out⟩;clear hcd hcd0 hok hrd hs' i1 i2 i3 i4 i5 i6 hhd;subst hc0;have n0:=HN7.out.cell_ 0 (.int .i64 st') rfl;have n1:=HN7.out.cell_ 1 (.int .i64 sy') rfl;have n2:=HN7.out.cell_ 2 (.slice hA' hd'.length hc') rfl;have n3:=HN7.out.cell_ 3 (.slice vA vs.length vc) rfl;have n4:=HN7.out.cell_ 4 (.slice rA rs.length rc) rfl;have y0:=HT7.out.cell_ 0 (.int .i64 st.t.st) rfl;have y1:=HT7.out.cell_ 1 (.int .i64 st.t.sym) rfl;have y2:=HT7.out.cell_ 2 (.slice hA st.t.hood.length hc) rfl;have y3:=HT7.out.cell_ 3 (.slice vA vs.length vc) rfl;have y4:=HT7.out.cell_ 4 (.slice rA rs.length rc) rfl;have g0:=HT7.out.frozen 0;have g1:=HT7.out.frozen 1;have g2:=HT7.out.frozen 2;have g3:=HT7.out.frozen 3;have g4:=HT7.out.frozen 4;go_wp2;go_roundw
      case rel=>exact⟨i+1,s',hA',hc',vA,vc,vs,rA,rc,rs,nA,nc,nb,HI.out,(by first | rfl | (rw[HWI.out];done) | (rw[HWI.out];rfl)),(by first | (rw[HHD.out.1];done) | (rw[HSD.out,HHD.out.1])),rfl,HM8,HT8,HB8,HRD3,hid HHD.out.2⟩
      case measure=>(try rw[HWI.out]);exact meas_p HI.out
     ·have q1:(cd != 0)=true:=by rw[bne_iff_ne];exact hc0
      have HE:Hid (res=(zero11,(i:Int)+1,cd)):=hid (by
       have h:=read_err (i:=i) (r:=(wdsB ls).drop (i+1)) HWL.out (by rw[HSTEP.out,← hcd];exact hc0);rw[HRD2.out,HSTEP.out,← hcd] at h;exact h)
      clear hcd hc0;have z0:=HR7.out.cell_ 0 (.int .i64 0) rfl;have z1:=HR7.out.cell_ 1 (.int .i64 0) rfl;have z2:=HR7.out.cell_ 2 (.slice none 0 0) rfl;have z3:=HR7.out.cell_ 3 (.slice none 0 0) rfl;have z4:=HR7.out.cell_ 4 (.slice none 0 0) rfl;have g0:=HR7.out.frozen 0;have g1:=HR7.out.frozen 1;have g2:=HR7.out.frozen 2;have g3:=HR7.out.frozen 3;have g4:=HR7.out.frozen 4;have HQX:Hid (Blk (set5 w7 R (.int .i64 0) (.int .i64 0) (.slice none 0 0) (.slice none 0 0) (.slice none 0 0)) R 26 #[.int .i64 0,.int .i64 0,.slice none 0 0,.slice none 0 0,.slice none 0 0]):=hid (set5_blk HR7.out (.int .i64 0) (.int .i64 0) (.slice none 0 0) (.slice none 0 0) (.slice none 0 0));have HBX:Hid (Below w.heap.size w (set5 w7 R (.int .i64 0) (.int .i64 0) (.slice none 0 0) (.slice none 0 0) (.slice none 0 0))):=hid (set5_below (HB2.out.trans (HB7.out.mono (by rw[← HR.out];exact Nat.le_of_lt HRB.out))) (by rw[HR.out];exact Nat.le_refl _) (.int .i64 0) (.int .i64 0) (.slice none 0 0) (.slice none 0 0) (.slice none 0 0));go_wp2;refine bodyPost_ret (results_ctt Tryz.results19 _ rfl HQX.out Tryz.underlying26 rfl Tryz.sizeTab) rfl ?_;rw[HE.out];exact ret_zero HBX.out
    ·skip
     have q3:decide ((st.head:Int) < 3)=false:=decide_eq_false (by omega);have hpos:0 < ws.length:=List.length_pos_iff.2 HNE.out;obtain⟨ga,oa,ea,hga,cw0⟩:=HS5.out.at_ hpos;subst ea;rw[Nat.add_zero] at cw0;have hg0:=wdsB_getD hpos;obtain⟨u0,hu0⟩:∃ z,z=ws[0]'hpos:=⟨_,rfl⟩
     rw[← hu0] at cw0 hg0;have d0:(u0.toList == [118,97,114])=decide (u0.data.toList=varW):=str_eq u0 [118,97,114];have hstep:stepW st (wdsB ws)=if u0.data.toList=varW then ((⟨st.head+1,(vblW st (wdsB ws)).1.t,(vblW st (wdsB ws)).1.names⟩:PSt),(vblW st (wdsB ws)).2) else ((⟨st.head+1,(rowW st (wdsB ws)).1.t,(rowW st (wdsB ws)).1.names⟩:PSt),(rowW st (wdsB ws)).2):=by
      unfold stepW;rw[if_neg h3,hg0]
     rw[HE4.out] at hstep;have HGA:Hid (wr.heap.size≤ga∧ga < N):=hid ⟨HNA.out _ rfl,by
      obtain⟨b',o',e',hb',-⟩:=HS4.out.at_ hpos;injection e' with e'
      injection e' with e1 e2
      rw[e1,HNE4.out];exact hb'⟩
     have HNM:Hid (Sts w5 nA nb∧nb.length=vs.length):=hid ⟨by
      obtain⟨A',c',e',h1,-⟩:=HM5.out.own.sts;injection e' with e1
      rw[e1];exact h1,by
      have e1:(wdsB nb).length=nb.length:=by unfold wdsB;rw[List.length_map]
      have e2:st.t.vars.length=vs.length:=by rw[← HM4.out.evs,List.length_map]
      have e3:=HM4.out.len;rw[← HM4.out.nms,e1,e2] at e3;exact e3⟩
     have HSW:Hid (∀ y ∈ ws,y.size≤2147483648):=hid (fun y hy=>Nat.le_trans (HWS.out.2 y hy) (by decide));clear hu0 hg0 hga h3;have t0:=HT5.out.cell_ 0 (.int .i64 st.t.st) rfl;have t1:=HT5.out.cell_ 1 (.int .i64 st.t.sym) rfl;have t2:=HT5.out.cell_ 2 (.slice hA st.t.hood.length hc) rfl;have t3:=HT5.out.cell_ 3 (.slice vA vs.length vc) rfl;have t4:=HT5.out.cell_ 4 (.slice rA rs.length rc) rfl;by_cases hv:u0.data.toList=varW
     ·rw[decide_eq_true hv] at d0;rw[if_pos hv] at hstep;have HSTEP:=hid hstep;have HC:=hid (rvbl_any B st hA hc vA vc vs rA rc rs nA nc nb (some ⟨ga,oa,none⟩) wc ws w5 HM5.out.vars HM5.out.evs HM5.out.ers HNM.out.1 HM5.out.nms HS5.out HSW.out (Nat.le_trans HWS.out.1 (by decide)) HM5.out.lim.2.2.1 (Nat.le_of_lt HT5.out.lt));rw[HE4.out] at HC;clear hstep hv;go_wp2_with (go_at_call 52;refine HC.out.mono ?_;rintro e w6 ⟨vA',vn',vc',rfl,hk6,hok⟩;have HN6b:=hid (hk6.blk HN5.out (own_blk_ne' HM5.out.vars.1 HN5.out (by decide)));have m0:=HN6b.out.cell_ 0 (.int .i64 st.t.st) rfl;have m1:=HN6b.out.cell_ 1 (.int .i64 st.t.sym) rfl;have m2:=HN6b.out.cell_ 2 (.slice hA st.t.hood.length hc) rfl;have m3:=HN6b.out.cell_ 3 (.slice vA vs.length vc) rfl;have m4:=HN6b.out.cell_ 4 (.slice rA rs.length rc) rfl;have f0:=HN6b.out.frozen 0;have f1:=HN6b.out.frozen 1;have f2:=HN6b.out.frozen 2;have f3:=HN6b.out.frozen 3;have f4:=HN6b.out.frozen 4;refine Hid.out ?_);refine hid ?_;have HK6:=hid hk6;have HOK:=hid hok;clear hk6 hok;go_upto_region 18 with fail
      obtain⟨w7,hw7⟩:∃ W,W=set5 w6 N (.int .i64 st.t.st) (.int .i64 st.t.sym) (.slice hA st.t.hood.length hc) (.slice vA' vn' vc') (.slice rA rs.length rc):=⟨_,rfl⟩
      have hw7':=hw7;unfold set5 at hw7';rw[← hw7'];clear hw7';have HN7:Hid (Blk w7 N 26 #[.int .i64 st.t.st,.int .i64 st.t.sym,.slice hA st.t.hood.length hc,.slice vA' vn' vc',.slice rA rs.length rc]):=hid (by rw[hw7];exact set5_blk HN6b.out (.int .i64 st.t.st) (.int .i64 st.t.sym) (.slice hA st.t.hood.length hc) (.slice vA' vn' vc') (.slice rA rs.length rc));have hk57:Kept (fun g=>(Value.slice vA vs.length vc).ownBlock=some g) w4 w7:=by rw[hw7];exact set5_keptS ((Kept.of_new _ HB5.out).trans HK6.out) (by rw[HNE4.out];exact Nat.le_refl _) (.int .i64 st.t.st) (.int .i64 st.t.sym) (.slice hA st.t.hood.length hc) (.slice vA' vn' vc') (.slice rA rs.length rc)
      have hb7:Below B w4 w7:=hk57.to_below (Nat.le_of_lt HT4.out.lt) (fun k hk hk2=>by have:=(own_lt' HM4.out.vars.1 hk2).2;omega);have HB7:Hid (Below B w2 w7):=hid (HB4.out.trans hb7);have HR7:=hid (HS3.out w7 HB7.out).2;have HK57:=hid hk57;have HT7:=hid (hk57.blk HT4.out (own_blk_ne' HM4.out.vars.1 HT4.out (by decide)));clear hk57 hb7;obtain⟨cd,hcd⟩:∃ c,c=(vblW st (wordsL x.data.toList)).2:=⟨_,rfl⟩
      rw[← hcd];by_cases hc0:cd=0
      ·have q1:(cd != 0)=false:=by rw[hc0];rfl
       have hcd0:(vblW st (wordsL x.data.toList)).2=0:=by rw[← hcd];exact hc0
       obtain⟨xv,ho6,hr1,hm6⟩:=HOK.out hcd0;obtain⟨vA'',vc'',ev',-,-⟩:=ho6.vrs;injection ev' with ev1 ev2 ev3
       rw[List.length_append,List.length_singleton] at ev2;subst ev2;have hl3:=vbl_len hcd0;rw[← HE4.out] at hl3;have hl1:1 < ws.length:=by have e1:(wdsB ws).length=ws.length:=(by unfold wdsB;rw[List.length_map]);omega
       have hlt:=vbl_lt hcd0;rw[← HM4.out.evs,List.length_map] at hlt;have ho7:OwnVR w7 B (.slice vA' (vs.length+1) vc') (vs ++ [xv]):=by
        rw[hw7];exact ho6.kept (set5_kept w6 N (.int .i64 st.t.st) (.int .i64 st.t.sym) (.slice hA st.t.hood.length hc) (.slice vA' (vs.length+1) vc') (.slice rA rs.length rc)) (fun g e1 e2=>by subst e2;exact own_blk_ne' ho6.1 HN6b.out (by decide) e1) (fun y hy g e1 e2=>by subst e2;exact own_blk_ne' (ho6.2 y hy) HN6b.out (by decide) e1)
       have hS7:Sts w7 (some ⟨ga,oa,none⟩) ws:=HS4.out.kept HK57.out (fun ad e _ h=>by
        injection e with e
        subst e;have:=HWO.out ga (.inl h);have:=HGA.out.1;omega)
       obtain⟨ga',oa',ea',-,cw1⟩:=hS7.at_ hl1;injection ea' with ea'
       injection ea' with ea1 ea2
       subst ea1 ea2;have hg1:=wdsB_getD hl1;rw[HE4.out] at hg1;obtain⟨u1,hu1⟩:∃ z,z=ws[1]'hl1:=⟨_,rfl⟩
       rw[← hu1] at cw1 hg1;have hrd:=(read_ok (i:=i) (r:=(wdsB ls).drop (i+1)) HWL.out (by rw[HSTEP.out];exact hcd0)).symm.trans HRD2.out;rw[HSTEP.out] at hrd;dsimp only at hrd;rw[hr1] at hrd;dsimp only at hrd;rw[hg1] at hrd;have HRD3:=hid hrd;have HO7:=hid ho7;have HM6:=hid hm6;have HLT:=hid hlt;have HNO:Hid (OwnS 9 w7 B (.slice nA nb.length nc) nb):=hid (HK57.out.own HM4.out.own (fun g e1 e2=>own_ne HM4.out.own HM4.out.vars.1 (by decide) e1 e2));have hno:=HNO.out;have hnl:nb.length < 1000000000000:=by have:=HNM.out.2;have:=HM4.out.lim.2.2.1;omega
       have hbs:B≤w7.heap.size:=Nat.le_of_lt HT7.out.lt;have hnv:(nb.length:Int) < (vs.length:Int)+1:=by have:=HNM.out.2;omega
       have hnv':(nb.length:Int) < ((vs.length+1:Nat):Int):=by have:=HNM.out.2;omega
       clear hcd hcd0 hr1 hrd hu1 hg1 hl3 hlt ho6 ho7 hm6 hS7 ev1 ev3 hw7;subst hc0;have n0:=HN7.out.cell_ 0 (.int .i64 st.t.st) rfl;have n1:=HN7.out.cell_ 1 (.int .i64 st.t.sym) rfl;have n2:=HN7.out.cell_ 2 (.slice hA st.t.hood.length hc) rfl;have n3:=HN7.out.cell_ 3 (.slice vA' (vs.length+1) vc') rfl;have n4:=HN7.out.cell_ 4 (.slice rA rs.length rc) rfl;go_wp2_with (at_builtin;refine wpList_pushSk rfl _ _ 70 rfl B 9 (by kernel_rfl) Tryz.infoString _ nb rfl hno u1 rfl hnl hbs ?_);intro v9 w9 ho9 hk9 hm9;obtain⟨nA',nc',en',-,-⟩:=ho9.sts;rw[List.length_append,List.length_singleton] at en';subst en';have HN9:=hid (hk9.blk HN7.out (own_blk_ne' hno HN7.out (by decide)));have HT9:=hid (hk9.blk HT7.out (own_blk_ne' hno HT7.out (by decide)));have HB9:Hid (Below B w2 w9):=hid (HB7.out.trans (hk9.to_below hbs (fun k hk hk2=>by have:=(own_lt' hno hk2).2;omega)));have HM9:=hid ((HM4.out.vbl (vA':=vA') (vc':=vc') HK57.out (by rw[List.length_append,List.length_singleton];exact HO7.out) (by rw[List.length_append,List.length_singleton];exact HM6.out.imp id (fun ⟨g,h1,h2⟩=>⟨g,h1,Nat.le_trans HB5.out.size h2⟩)) HLT.out hk9 ho9 hm9).boxed (T:=26) HT9.out (set5_kept w9 B (.int .i64 st.t.st) (.int .i64 st.t.sym) (.slice hA st.t.hood.length hc) (.slice vA' (vs.length+1) vc') (.slice rA rs.length rc)));have HTF:Hid (Blk (set5 w9 B (.int .i64 st.t.st) (.int .i64 st.t.sym) (.slice hA st.t.hood.length hc) (.slice vA' (vs.length+1) vc') (.slice rA rs.length rc)) B 26 #[.int .i64 st.t.st,.int .i64 st.t.sym,.slice hA st.t.hood.length hc,.slice vA' (vs.length+1) vc',.slice rA rs.length rc]):=hid (set5_blk HT9.out (.int .i64 st.t.st) (.int .i64 st.t.sym) (.slice hA st.t.hood.length hc) (.slice vA' (vs.length+1) vc') (.slice rA rs.length rc));have HBF:Hid (Below B w2 (set5 w9 B (.int .i64 st.t.st) (.int .i64 st.t.sym) (.slice hA st.t.hood.length hc) (.slice vA' (vs.length+1) vc') (.slice rA rs.length rc))):=hid (set5_below HB9.out (Nat.le_refl B) (.int .i64 st.t.st) (.int .i64 st.t.sym) (.slice hA st.t.hood.length hc) (.slice vA' (vs.length+1) vc') (.slice rA rs.length rc));clear ho9 hk9 hm9 hno hnl hbs cw1 n0 n1 n2 n3 n4;have n0:=HN9.out.cell_ 0 (.int .i64 st.t.st) rfl;have n1:=HN9.out.cell_ 1 (.int .i64 st.t.sym) rfl;have n2:=HN9.out.cell_ 2 (.slice hA st.t.hood.length hc) rfl;have n3:=HN9.out.cell_ 3 (.slice vA' (vs.length+1) vc') rfl;have n4:=HN9.out.cell_ 4 (.slice rA rs.length rc) rfl;have y0:=HT9.out.cell_ 0 (.int .i64 st.t.st) rfl;have y1:=HT9.out.cell_ 1 (.int .i64 st.t.sym) rfl;have y2:=HT9.out.cell_ 2 (.slice hA st.t.hood.length hc) rfl;have y3:=HT9.out.cell_ 3 (.slice vA vs.length vc) rfl;have y4:=HT9.out.cell_ 4 (.slice rA rs.length rc) rfl;have g0:=HT9.out.frozen 0;have g1:=HT9.out.frozen 1;have g2:=HT9.out.frozen 2;have g3:=HT9.out.frozen 3;have g4:=HT9.out.frozen 4;go_wp2;go_roundw
       case rel=>exact⟨i+1,⟨st.head+1,⟨st.t.st,st.t.sym,st.t.hood,st.t.vars ++ [xv.zs],st.t.rows⟩,st.names ++ [u1.data.toList]⟩,hA,hc,vA',vc',vs ++ [xv],rA,rc,rs,nA',nc',nb ++ [u1],HI.out,(by first | rfl | (rw[HWI.out];done) | (rw[HWI.out];rfl)),(by first | rfl | (rw[HSD.out];done) | (rw[HSD.out];rfl)),by rw[List.length_append,List.length_singleton],(by have h:=HM9;rw[List.length_append,List.length_singleton];exact h),(by have h:=HTF;rw[List.length_append,List.length_singleton];exact h),HBF,HRD3,hid (Nat.succ_le_succ HHI.out)⟩
       case measure=>(try rw[HWI.out]);exact meas_p HI.out
      ·have q1:(cd != 0)=true:=by rw[bne_iff_ne];exact hc0
       have HE:Hid (res=(zero11,(i:Int)+1,cd)):=hid (by
        have h:=read_err (i:=i) (r:=(wdsB ls).drop (i+1)) HWL.out (by rw[HSTEP.out];show (vblW st (wordsL x.data.toList)).2≠0;rw[← hcd];exact hc0);rw[HRD2.out,HSTEP.out] at h;dsimp only at h;rw[← hcd] at h;exact h)
       clear hcd hc0 hw7;have z0:=HR7.out.cell_ 0 (.int .i64 0) rfl;have z1:=HR7.out.cell_ 1 (.int .i64 0) rfl;have z2:=HR7.out.cell_ 2 (.slice none 0 0) rfl;have z3:=HR7.out.cell_ 3 (.slice none 0 0) rfl;have z4:=HR7.out.cell_ 4 (.slice none 0 0) rfl;have g0:=HR7.out.frozen 0;have g1:=HR7.out.frozen 1;have g2:=HR7.out.frozen 2;have g3:=HR7.out.frozen 3;have g4:=HR7.out.frozen 4;have HQX:Hid (Blk (set5 w7 R (.int .i64 0) (.int .i64 0) (.slice none 0 0) (.slice none 0 0) (.slice none 0 0)) R 26 #[.int .i64 0,.int .i64 0,.slice none 0 0,.slice none 0 0,.slice none 0 0]):=hid (set5_blk HR7.out (.int .i64 0) (.int .i64 0) (.slice none 0 0) (.slice none 0 0) (.slice none 0 0));have HBX:Hid (Below w.heap.size w (set5 w7 R (.int .i64 0) (.int .i64 0) (.slice none 0 0) (.slice none 0 0) (.slice none 0 0))):=hid (set5_below (HB2.out.trans (HB7.out.mono (by rw[← HR.out];exact Nat.le_of_lt HRB.out))) (by rw[HR.out];exact Nat.le_refl _) (.int .i64 0) (.int .i64 0) (.slice none 0 0) (.slice none 0 0) (.slice none 0 0));go_wp2;refine bodyPost_ret (results_ctt Tryz.results19 _ rfl HQX.out Tryz.underlying26 rfl Tryz.sizeTab) rfl ?_;rw[HE.out];exact ret_zero HBX.out
     ·rw[decide_eq_false hv] at d0;rw[if_neg hv] at hstep;have HSTEP:=hid hstep;have HC:=hid (rrow_any B st hA hc vA vs.length vc rA rc rs nA nc nb (some ⟨ga,oa,none⟩) wc ws w5 HM5.out.rows HM5.out.ers HNM.out.1 HM5.out.nms (by have:=HNM.out.2;have:=HM5.out.lim.2.2.1;omega) HS5.out HSW.out (Nat.le_trans HWS.out.1 (by decide)) HM5.out.lim.2.2.2 (Nat.le_trans HM5.out.lim.2.1 (by decide)) HM5.out.lim.1 (Nat.le_of_lt HT5.out.lt));rw[HE4.out] at HC;clear hstep hv;go_wp2_with (go_at_call 53;refine HC.out.mono ?_;rintro e w6 ⟨rA',rn',rc',rfl,hk6,hok⟩;have HN6b:=hid (hk6.blk HN5.out (own_blk_ne' HM5.out.rows HN5.out (by decide)));have m0:=HN6b.out.cell_ 0 (.int .i64 st.t.st) rfl;have m1:=HN6b.out.cell_ 1 (.int .i64 st.t.sym) rfl;have m2:=HN6b.out.cell_ 2 (.slice hA st.t.hood.length hc) rfl;have m3:=HN6b.out.cell_ 3 (.slice vA vs.length vc) rfl;have m4:=HN6b.out.cell_ 4 (.slice rA rs.length rc) rfl;have f0:=HN6b.out.frozen 0;have f1:=HN6b.out.frozen 1;have f2:=HN6b.out.frozen 2;have f3:=HN6b.out.frozen 3;have f4:=HN6b.out.frozen 4;refine Hid.out ?_);refine hid ?_;have HK6:=hid hk6;have HOK:=hid hok;clear hk6 hok;go_upto_region 18 with fail
      obtain⟨w7,hw7⟩:∃ W,W=set5 w6 N (.int .i64 st.t.st) (.int .i64 st.t.sym) (.slice hA st.t.hood.length hc) (.slice vA vs.length vc) (.slice rA' rn' rc'):=⟨_,rfl⟩
      have hw7':=hw7;unfold set5 at hw7';rw[← hw7'];clear hw7';have HN7:Hid (Blk w7 N 26 #[.int .i64 st.t.st,.int .i64 st.t.sym,.slice hA st.t.hood.length hc,.slice vA vs.length vc,.slice rA' rn' rc']):=hid (by rw[hw7];exact set5_blk HN6b.out (.int .i64 st.t.st) (.int .i64 st.t.sym) (.slice hA st.t.hood.length hc) (.slice vA vs.length vc) (.slice rA' rn' rc'));have hk57:Kept (fun g=>(Value.slice rA rs.length rc).ownBlock=some g) w4 w7:=by rw[hw7];exact set5_keptS ((Kept.of_new _ HB5.out).trans HK6.out) (by rw[HNE4.out];exact Nat.le_refl _) (.int .i64 st.t.st) (.int .i64 st.t.sym) (.slice hA st.t.hood.length hc) (.slice vA vs.length vc) (.slice rA' rn' rc')
      have hb7:Below B w4 w7:=hk57.to_below (Nat.le_of_lt HT4.out.lt) (fun k hk hk2=>by have:=(own_lt' HM4.out.rows hk2).2;omega);have HB7:Hid (Below B w2 w7):=hid (HB4.out.trans hb7);have HR7:=hid (HS3.out w7 HB7.out).2;have HK57:=hid hk57;have HT7:=hid (hk57.blk HT4.out (own_blk_ne' HM4.out.rows HT4.out (by decide)));clear hk57 hb7;obtain⟨cd,hcd⟩:∃ c,c=(rowW st (wordsL x.data.toList)).2:=⟨_,rfl⟩
      rw[← hcd];by_cases hc0:cd=0
      ·have q1:(cd != 0)=false:=by rw[hc0];rfl
       have hcd0:(rowW st (wordsL x.data.toList)).2=0:=by rw[← hcd];exact hc0
       obtain⟨xr,ho6,hi6,hx6,hr1,hm6⟩:=HOK.out hcd0;obtain⟨rA'',rc'',ev',-⟩:=ho6.form;injection ev' with ev1 ev2 ev3
       rw[List.length_append,List.length_singleton] at ev2;subst ev2;have hlt:=row_lt hcd0;rw[← HM4.out.ers,List.length_map] at hlt;have k67:=set5_kept w6 N (.int .i64 st.t.st) (.int .i64 st.t.sym) (.slice hA st.t.hood.length hc) (.slice vA vs.length vc) (.slice rA' (rs.length+1) rc');have ho7:OwnRZ w7 B (.slice rA' (rs.length+1) rc') (rs ++ [xr]):=by
        rw[hw7];exact k67.own ho6 (fun g e1 e2=>by subst e2;exact own_blk_ne' ho6 HN6b.out (by decide) e1)
       have hi7:Ints w7 xr.A xr.zs:=by
        rw[hw7];exact hi6.keptN k67 (fun ad e _ e2=>by have h1:=(hx6 ad e).1;have h2:ad.block=N:=e2;have h3:=HN5.out.lt;omega)
       have hrd:=(read_ok (i:=i) (r:=(wdsB ls).drop (i+1)) HWL.out (by rw[HSTEP.out];exact hcd0)).symm.trans HRD2.out;rw[HSTEP.out] at hrd;dsimp only at hrd;rw[hr1] at hrd;dsimp only at hrd;have HRD3:=hid hrd;have HM9:=hid ((HM4.out.row (rA':=rA') (rc':=rc') HK57.out (by rw[List.length_append,List.length_singleton];exact ho7) hi7 (fun ad e=>by rw[List.length_append,List.length_singleton];exact⟨Nat.le_trans HB5.out.size (hx6 ad e).1,(hx6 ad e).2⟩) HT4.out.lt (by rw[List.length_append,List.length_singleton];exact hm6.imp id (fun ⟨g,h1,h2⟩=>⟨g,h1,Nat.le_trans HB5.out.size h2⟩)) hlt).boxed (T:=26) HT7.out (set5_kept w7 B (.int .i64 st.t.st) (.int .i64 st.t.sym) (.slice hA st.t.hood.length hc) (.slice vA vs.length vc) (.slice rA' (rs.length+1) rc')));have HTF:Hid (Blk (set5 w7 B (.int .i64 st.t.st) (.int .i64 st.t.sym) (.slice hA st.t.hood.length hc) (.slice vA vs.length vc) (.slice rA' (rs.length+1) rc')) B 26 #[.int .i64 st.t.st,.int .i64 st.t.sym,.slice hA st.t.hood.length hc,.slice vA vs.length vc,.slice rA' (rs.length+1) rc']):=hid (set5_blk HT7.out (.int .i64 st.t.st) (.int .i64 st.t.sym) (.slice hA st.t.hood.length hc) (.slice vA vs.length vc) (.slice rA' (rs.length+1) rc'));have HBF:Hid (Below B w2 (set5 w7 B (.int .i64 st.t.st) (.int .i64 st.t.sym) (.slice hA st.t.hood.length hc) (.slice vA vs.length vc) (.slice rA' (rs.length+1) rc'))):=hid (set5_below HB7.out (Nat.le_refl B) (.int .i64 st.t.st) (.int .i64 st.t.sym) (.slice hA st.t.hood.length hc) (.slice vA vs.length vc) (.slice rA' (rs.length+1) rc'));have hnv:¬ ((nb.length:Int) < (vs.length:Int)):=by have:=HNM.out.2;omega
       clear hcd hcd0 hr1 hrd hlt ho6 ho7 hi6 hi7 hx6 hm6 k67 ev1 ev3 hw7;subst hc0;have n0:=HN7.out.cell_ 0 (.int .i64 st.t.st) rfl;have n1:=HN7.out.cell_ 1 (.int .i64 st.t.sym) rfl;have n2:=HN7.out.cell_ 2 (.slice hA st.t.hood.length hc) rfl;have n3:=HN7.out.cell_ 3 (.slice vA vs.length vc) rfl;have n4:=HN7.out.cell_ 4 (.slice rA' (rs.length+1) rc') rfl;have y0:=HT7.out.cell_ 0 (.int .i64 st.t.st) rfl;have y1:=HT7.out.cell_ 1 (.int .i64 st.t.sym) rfl;have y2:=HT7.out.cell_ 2 (.slice hA st.t.hood.length hc) rfl;have y3:=HT7.out.cell_ 3 (.slice vA vs.length vc) rfl;have y4:=HT7.out.cell_ 4 (.slice rA rs.length rc) rfl;have g0:=HT7.out.frozen 0;have g1:=HT7.out.frozen 1;have g2:=HT7.out.frozen 2;have g3:=HT7.out.frozen 3;have g4:=HT7.out.frozen 4;go_wp2;go_roundw
       case rel=>exact⟨i+1,⟨st.head+1,⟨st.t.st,st.t.sym,st.t.hood,st.t.vars,st.t.rows ++ [xr.rw_]⟩,st.names⟩,hA,hc,vA,vc,vs,rA',rc',rs ++ [xr],nA,nc,nb,HI.out,(by first | rfl | (rw[HWI.out];done) | (rw[HWI.out];rfl)),(by first | rfl | (rw[HSD.out];done) | (rw[HSD.out];rfl)),rfl,HM9,(by have h:=HTF;rw[List.length_append,List.length_singleton];exact h),HBF,HRD3,hid (Nat.succ_le_succ HHI.out)⟩
       case measure=>(try rw[HWI.out]);exact meas_p HI.out
      ·have q1:(cd != 0)=true:=by rw[bne_iff_ne];exact hc0
       have HE:Hid (res=(zero11,(i:Int)+1,cd)):=hid (by
        have h:=read_err (i:=i) (r:=(wdsB ls).drop (i+1)) HWL.out (by rw[HSTEP.out];show (rowW st (wordsL x.data.toList)).2≠0;rw[← hcd];exact hc0);rw[HRD2.out,HSTEP.out] at h;dsimp only at h;rw[← hcd] at h;exact h)
       clear hcd hc0 hw7;have z0:=HR7.out.cell_ 0 (.int .i64 0) rfl;have z1:=HR7.out.cell_ 1 (.int .i64 0) rfl;have z2:=HR7.out.cell_ 2 (.slice none 0 0) rfl;have z3:=HR7.out.cell_ 3 (.slice none 0 0) rfl;have z4:=HR7.out.cell_ 4 (.slice none 0 0) rfl;have g0:=HR7.out.frozen 0;have g1:=HR7.out.frozen 1;have g2:=HR7.out.frozen 2;have g3:=HR7.out.frozen 3;have g4:=HR7.out.frozen 4;have HQX:Hid (Blk (set5 w7 R (.int .i64 0) (.int .i64 0) (.slice none 0 0) (.slice none 0 0) (.slice none 0 0)) R 26 #[.int .i64 0,.int .i64 0,.slice none 0 0,.slice none 0 0,.slice none 0 0]):=hid (set5_blk HR7.out (.int .i64 0) (.int .i64 0) (.slice none 0 0) (.slice none 0 0) (.slice none 0 0));have HBX:Hid (Below w.heap.size w (set5 w7 R (.int .i64 0) (.int .i64 0) (.slice none 0 0) (.slice none 0 0) (.slice none 0 0))):=hid (set5_below (HB2.out.trans (HB7.out.mono (by rw[← HR.out];exact Nat.le_of_lt HRB.out))) (by rw[HR.out];exact Nat.le_refl _) (.int .i64 0) (.int .i64 0) (.slice none 0 0) (.slice none 0 0) (.slice none 0 0));go_wp2;refine bodyPost_ret (results_ctt Tryz.results19 _ rfl HQX.out Tryz.underlying26 rfl Tryz.sizeTab) rfl ?_;rw[HE.out];exact ret_zero HBX.out
  ·skip
   obtain rfl:i=ls.length:=Nat.le_antisymm hi (Nat.le_of_not_lt hil);have hrd:=HRD.out;rw[show (wdsB ls).drop ls.length=[] from List.drop_eq_nil_of_le (by unfold wdsB;rw[List.length_map];exact Nat.le_refl _)] at hrd;have HRr:=hid (HS3.out wr HB.out).2;have HLOW:Hid (w.heap.size≤B):=hid (by rw[← HR.out];exact Nat.le_of_lt HRB.out);by_cases h3:st.head < 3
   ·have q3:decide ((st.head:Int) < 3)=true:=decide_eq_true (by omega);have HE:Hid (res=(zero11,0,4)):=hid (by rw[← hrd];exact if_pos h3);have HBX:Hid (Below w.heap.size w (set5 wr R (.int .i64 0) (.int .i64 0) (.slice none 0 0) (.slice none 0 0) (.slice none 0 0))):=hid (set5_below (HB2.out.trans (HB.out.mono HLOW.out)) (by rw[HR.out];exact Nat.le_refl _) (.int .i64 0) (.int .i64 0) (.slice none 0 0) (.slice none 0 0) (.slice none 0 0));have HQX:Hid (Blk (set5 wr R (.int .i64 0) (.int .i64 0) (.slice none 0 0) (.slice none 0 0) (.slice none 0 0)) R 26 #[.int .i64 0,.int .i64 0,.slice none 0 0,.slice none 0 0,.slice none 0 0]):=hid (set5_blk HRr.out (.int .i64 0) (.int .i64 0) (.slice none 0 0) (.slice none 0 0) (.slice none 0 0));clear hrd h3 hi hil;have z0:=HRr.out.cell_ 0 (.int .i64 0) rfl;have z1:=HRr.out.cell_ 1 (.int .i64 0) rfl;have z2:=HRr.out.cell_ 2 (.slice none 0 0) rfl;have z3:=HRr.out.cell_ 3 (.slice none 0 0) rfl;have z4:=HRr.out.cell_ 4 (.slice none 0 0) rfl;have g0:=HRr.out.frozen 0;have g1:=HRr.out.frozen 1;have g2:=HRr.out.frozen 2;have g3:=HRr.out.frozen 3;have g4:=HRr.out.frozen 4;go_wp2;refine bodyPost_ret (results_ctt Tryz.results19 _ rfl HQX.out Tryz.underlying26 rfl Tryz.sizeTab) rfl ?_;rw[HE.out];exact ret_zero HBX.out
   ·have q3:decide ((st.head:Int) < 3)=false:=decide_eq_false (by omega);have HE:Hid (res=(st.t,0,0)):=hid (by rw[← hrd];exact if_neg h3);have HBX:Hid (Below w.heap.size w (set5 wr R (.int .i64 st.t.st) (.int .i64 st.t.sym) (.slice hA st.t.hood.length hc) (.slice vA vs.length vc) (.slice rA rs.length rc))):=hid (set5_below (HB2.out.trans (HB.out.mono HLOW.out)) (by rw[HR.out];exact Nat.le_refl _) (.int .i64 st.t.st) (.int .i64 st.t.sym) (.slice hA st.t.hood.length hc) (.slice vA vs.length vc) (.slice rA rs.length rc));have HQX:Hid (Blk (set5 wr R (.int .i64 st.t.st) (.int .i64 st.t.sym) (.slice hA st.t.hood.length hc) (.slice vA vs.length vc) (.slice rA rs.length rc)) R 26 #[.int .i64 st.t.st,.int .i64 st.t.sym,.slice hA st.t.hood.length hc,.slice vA vs.length vc,.slice rA rs.length rc]):=hid (set5_blk HRr.out (.int .i64 st.t.st) (.int .i64 st.t.sym) (.slice hA st.t.hood.length hc) (.slice vA vs.length vc) (.slice rA rs.length rc));have HTF:=hid (HM.out.low (set5_kept wr R (.int .i64 st.t.st) (.int .i64 st.t.sym) (.slice hA st.t.hood.length hc) (.slice vA vs.length vc) (.slice rA rs.length rc)) HRB.out HRB.out).tabr;clear hrd h3 hi hil;have t0:=HT.out.cell_ 0 (.int .i64 st.t.st) rfl;have t1:=HT.out.cell_ 1 (.int .i64 st.t.sym) rfl;have t2:=HT.out.cell_ 2 (.slice hA st.t.hood.length hc) rfl;have t3:=HT.out.cell_ 3 (.slice vA vs.length vc) rfl;have t4:=HT.out.cell_ 4 (.slice rA rs.length rc) rfl;have z0:=HRr.out.cell_ 0 (.int .i64 0) rfl;have z1:=HRr.out.cell_ 1 (.int .i64 0) rfl;have z2:=HRr.out.cell_ 2 (.slice none 0 0) rfl;have z3:=HRr.out.cell_ 3 (.slice none 0 0) rfl;have z4:=HRr.out.cell_ 4 (.slice none 0 0) rfl;have g0:=HRr.out.frozen 0;have g1:=HRr.out.frozen 1;have g2:=HRr.out.frozen 2;have g3:=HRr.out.frozen 3;have g4:=HRr.out.frozen 4;go_wp2;refine bodyPost_ret (results_ctt Tryz.results19 _ rfl HQX.out Tryz.underlying26 rfl Tryz.sizeTab) rfl ?_;rw[HE.out];exact⟨hA,hc,vA,vc,rA,rc,⟨st.t.st,st.t.sym,st.t.hood,vs,rs⟩,rfl,HTF.out.1,HTF.out.2,HBX.out⟩
end Go.Proofs.YtcmbdhopmncmnaaGreatDoor
namespace Go.Proofs.YtcmbdhopmncmnaaGreatDoor
open Lib(hid)
open Go.RowKit
set_option maxRecDepth 100000
set_option linter.unusedVariables false
set_option linter.unusedSimpArgs false
theorem dec_big2 {n:Nat}(h:¬ n < 10):Lib.decDigits n=Lib.decDigits (n / 10) ++ Lib.decDigits (n % 10):=by rw[d11_big h,d11_small (n:=n % 10) (by omega)]
set_option maxHeartbeats 1600000 in
theorem rdec1_any (n:Nat)(h:n < 10)(w:World):Calls Tryz.prog 62 #[.int .i64 n] w fun e w'=>e=.returned (.string ⟨(Lib.decDigits n).toArray⟩)∧w'=w:=by
 have HN:=hid (d11_small h);obtain rfl | rfl | rfl | rfl | rfl | rfl | rfl | rfl | rfl | rfl:n=0∨n=1∨n=2∨n=3∨n=4∨n=5∨n=6∨n=7∨n=8∨n=9:=by omega
 all_goals
  go_enter Tryz.func62,Tryz.ntmps62;go_wp2;go_ret;rw[HN.out];exact⟨rfl,rfl⟩
set_option maxHeartbeats 1600000 in
theorem rdec2_any (n:Nat)(h:n < 100)(w:World):Calls Tryz.prog 62 #[.int .i64 n] w fun e w'=>e=.returned (.string ⟨(Lib.decDigits n).toArray⟩)∧w'=w:=by
 by_cases h1:n < 10
 ·exact rdec1_any n h1 w
 ·have IH1:Hid (Calls Tryz.prog 62 #[.int .i64 ((n / 10:Nat):Int)] w fun e w'=>e=.returned (.string ⟨(Lib.decDigits (n / 10)).toArray⟩)∧w'=w):=hid (rdec1_any (n / 10) (by omega) w);have IH2:Hid (Calls Tryz.prog 62 #[.int .i64 ((n % 10:Nat):Int)] w fun e w'=>e=.returned (.string ⟨(Lib.decDigits (n % 10)).toArray⟩)∧w'=w):=hid (rdec1_any (n % 10) (by omega) w);have HN:=hid (dec_big2 h1);have dn:decide ((n:Int) < 0)=false:=decide_eq_false (by omega);have d0:decide ((n:Int) < 10)=false:=decide_eq_false (by omega);have hq:wrap64 (Int.tdiv (n:Int) 10)=((n / 10:Nat):Int):=by rw[Int.tdiv_eq_ediv_of_nonneg (by omega)];unfold wrap64;omega
  have hr:wrap64 (Int.tmod (n:Int) 10)=((n % 10:Nat):Int):=by rw[Int.tmod_eq_emod_of_nonneg (by omega)];unfold wrap64;omega
  have hl1:=d11_len (k:=1) (n / 10) (by omega);have hl2:=d11_len (k:=1) (n % 10) (by omega);have hle:¬9223372036854775807 < (Lib.decDigits (n / 10)).length+(Lib.decDigits (n % 10)).length:=by omega
  clear hl1 hl2;go_enter Tryz.func62,Tryz.ntmps62;go_wp2_with fail;refine IH1.out.mono ?_;rintro e w1 ⟨rfl,hw1⟩;subst hw1;go_wp2_with fail;refine IH2.out.mono ?_;rintro e w2 ⟨rfl,hw2⟩;subst hw2;go_wp2;go_ret;rw[HN.out];exact⟨by rw[bytes_app];rfl,rfl⟩
theorem rdecN_any (n:Int)(h0:0≤n)(h1:n < 100)(w:World):Calls Tryz.prog 62 #[.int .i64 n] w fun e w'=>e=.returned (.string ⟨(Lib.decDigits n.toNat).toArray⟩)∧w'=w:=by
 have h:=rdec2_any n.toNat (by omega) w;rw[show ((n.toNat:Nat):Int)=n by omega] at h;exact h
set_option maxHeartbeats 1000000 in
theorem rword_any (n:Int)(h0:-100≤n)(h1:n < 100)(w:World):Calls Tryz.prog 64 #[.int .i64 n] w fun e w'=>e=.returned (.string ⟨(elT n).toArray⟩)∧w'=w:=by
 by_cases h:n < 0
 ·have d0:decide (0≤n)=false:=decide_eq_false (by omega);have hw:wrap64 (-1 - n) = -1 - n:=by unfold wrap64;omega
  have HI:=hid (rdecN_any (-1 - n) (by omega) (by omega) w);have HE:Hid (elT n=[118] ++ Lib.decDigits (-1 - n).toNat):=hid (by unfold elT;rw[if_pos h];rfl);have hl:(Lib.decDigits (-1 - n).toNat).length≤2:=dec1_len (by omega) (by omega);obtain⟨ds,hd⟩:∃ ds,ds=Lib.decDigits (-1 - n).toNat:=⟨_,rfl⟩
  rw[← hd] at HI HE hl;have hle:¬ 9223372036854775807 < 1+ds.length:=by omega
  clear hd hl h0 h1;go_enter Tryz.func64,Tryz.ntmps64;go_wp2_with fail;refine HI.out.mono ?_;rintro e w' ⟨rfl,rfl⟩;clear HI;go_wp2;go_ret;rw[HE.out,← cat2];exact⟨rfl,rfl⟩
 ·have d0:decide (0≤n)=true:=decide_eq_true (by omega);have HI:=hid (rdecN_any n (by omega) (by omega) w);have HE:Hid (elT n=Lib.decDigits n.toNat):=hid (by unfold elT;rw[if_neg h]);obtain⟨ds,hd⟩:∃ ds,ds=Lib.decDigits n.toNat:=⟨_,rfl⟩
  rw[← hd] at HI HE;clear hd h0 h1;go_enter Tryz.func64,Tryz.ntmps64;go_wp2_with fail;refine HI.out.mono ?_;rintro e w' ⟨rfl,rfl⟩;clear HI;go_wp2;go_ret;rw[HE.out];exact⟨rfl,rfl⟩
end Go.Proofs.YtcmbdhopmncmnaaGreatDoor
