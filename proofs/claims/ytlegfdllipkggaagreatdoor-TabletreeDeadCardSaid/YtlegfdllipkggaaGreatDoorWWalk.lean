/-
  texts Walk: parts of the proof; conditions stand with each theorem.
-/
import Derived.Test.YtlegfdllipkggaaGreatDoorWG2
import Derived.Deep.DeepCutAuto
import Derived.Deep.DeepFit
import Derived.Deep.CutBlock
namespace Go.Proofs.YtlegfdllipkggaaGreatDoor
open Lib(hid)
open Go.RowKit
set_option maxRecDepth 100000
set_option linter.unusedVariables false
set_option linter.unusedSimpArgs false

theorem OwnI.set {I:TypeId}{w:World}{base g n c:Nat}{zs:List Int}(h:OwnI I w base (.slice (some ⟨g,0,none⟩) n c) zs)(hn:n=zs.length)(j:Nat)(v:Int) :
  OwnI I (w.setCell ⟨g,j,none⟩ (.int .i64 v)) base (.slice (some ⟨g,0,none⟩) n c) (zs.set j v):=by
 subst hn;have:=(World.ownsRow.stored h j (.int .i64 v)).1;unfold OwnI;rw[List.length_set,List.map_set];exact this
theorem OwnI.some_ {I:TypeId}{w:World}{base:Nat}{v:Value}{zs:List Int}(h:OwnI I w base v zs)(hp:0 < zs.length):∃ g c,v=.slice (some ⟨g,0,none⟩) zs.length c∧base≤g∧g < w.heap.size:=by
 rcases h.2 with ⟨_,h0⟩ | ⟨g,cap,cur,hv,hb,hh,_⟩
 ·omega
 ·refine⟨g,cap,hv,hb,?_⟩;rcases Nat.lt_or_ge g w.heap.size with hlt | hge
  ·exact hlt
  ·rw[Array.getElem?_eq_none hge] at hh;cases hh
structure WkS (B Pd Pn Pw Po gd cap:Nat)(A:Option Addr)(n c:Nat)(ov:Value)(s:St)(os:List Hd)(w:World):Prop where
 bd:Blk w Pd 38 #[.slice (some ⟨gd,0,none⟩) s.1.length cap]
 row:OwnIA w B (.slice (some ⟨gd,0,none⟩) s.1.length cap) s.1
 bn:Blk w Pn 29 #[.slice A n c]
 bw:Blk w Pw 120 #[.func (.func 104) #[] #[.pointer (some ⟨Pd,0,none⟩),.pointer (some ⟨Pn,0,none⟩),.pointer (some ⟨Pw,0,none⟩),.pointer (some ⟨Po,0,none⟩)]]
 bo:Blk w Po 29 #[ov]
 out:OwnNA w B ov os
 eq:os.map Hd.nd=s.2
 bB:B≤Po
 ne:Pn≠Po
 apart:∀ x ∈ os,x.val.ownBlock≠some gd
def WkT (Po gd:Nat)(ov:Value):Nat→Prop:=fun g=>g=Po∨g=gd∨ov.ownBlock=some g
theorem nd_at (hs:List Hd){k:Nat}(hk:k < hs.length):ndAt (hs.map Hd.nd) k=hs[k].nd:=by
 unfold ndAt;rw[List.getD_eq_getElem?_getD,List.getElem?_map,List.getElem?_eq_getElem hk];rfl
theorem OwnI.cellk {I:TypeId}{w:World}{base g n c:Nat}{zs:List Int}(h:OwnI I w base (.slice (some ⟨g,0,none⟩) n c) zs){k:Nat}(hk:k < zs.length) :
  w.cell? ⟨g,k,none⟩=some (.int .i64 (zs.getD k 0))∧w.frozen? ⟨g,k,none⟩=false:=by
 obtain⟨A,c',e,hi,-⟩:=h.ints;injection e with e1 e2 e3
 subst e1 e2 e3;obtain⟨b,o,e,-,hc⟩:=hi.at_ hk;injection e with e
 injection e with e1 e2
 subst e1 e2;rw[Nat.zero_add] at hc;refine⟨by rw[hc,List.getD_eq_getElem?_getD,List.getElem?_eq_getElem hk];rfl,World.ownsRow.frozenAt h k⟩
def kidsTo (ns:List Nd)(f:Nat)(lv:Int)(zs:List Int)(s:St)(m:Nat):St × List Int:=if 1 < lv then (zs.take m).foldl (kidStep ns f) (s,[]) else (s,zs.take m)
theorem kidsTo_zero (ns:List Nd)(f:Nat)(lv:Int)(zs:List Int)(s:St):kidsTo ns f lv zs s 0=(s,[]):=by
 unfold kidsTo
 split <;> simp
theorem kidsTo_step {ns:List Nd}{f:Nat}{lv:Int}{zs:List Int}{s:St}{m:Nat}(h:1 < lv)(hm:m < zs.length) :
  kidsTo ns f lv zs s (m+1)=(dfs ns f zs[m].toNat (kidsTo ns f lv zs s m).1,(kidsTo ns f lv zs s m).2 ++ [(dfs ns f zs[m].toNat (kidsTo ns f lv zs s m).1).1.getD zs[m].toNat 0 - 1]):=by
 unfold kidsTo;rw[if_pos h,if_pos h,List.take_succ_eq_append_getElem hm,List.foldl_append];rfl
theorem kidsTo_low {ns:List Nd}{f:Nat}{lv:Int}{zs:List Int}{s:St}(m:Nat)(h:¬ 1 < lv):kidsTo ns f lv zs s m=(s,zs.take m):=by
 unfold kidsTo;rw[if_neg h]
theorem kidsTo_all {ns:List Nd}{f k:Nat}{lv:Int}{zs:List Int}{s:St}(h:ndAt ns k=(lv,zs)):kidsTo ns f lv zs s zs.length=kidsOf ns f k s:=by
 unfold kidsTo kidsOf;rw[h,List.take_length]
theorem dfs_all {ns:List Nd}{f k:Nat}{lv:Int}{zs:List Int}{s:St}(h:ndAt ns k=(lv,zs))(h0:¬ 0 < s.1.getD k 0) :
  dfs ns (f+1) k s=((kidsTo ns f lv zs s zs.length).1.1.set k ((kidsTo ns f lv zs s zs.length).1.2.length+1:Nat),(kidsTo ns f lv zs s zs.length).1.2 ++ [(lv,(kidsTo ns f lv zs s zs.length).2)]):=by
 rw[dfs_new ns f k s h0,kidsTo_all h,h]
theorem set_mid {acc zs:List Int}{m:Nat}(ha:acc.length=m)(hm:m < zs.length)(v:Int):(acc ++ zs.drop m).set m v=(acc ++ [v]) ++ zs.drop (m+1):=by
 rw[List.drop_eq_getElem_cons hm,List.set_append_right _ _ (by omega),ha,Nat.sub_self,List.set_cons_zero]
 simp
theorem get_mid {acc zs:List Int}{m:Nat}(ha:acc.length=m)(hm:m < zs.length):(acc ++ zs.drop m).getD m 0=zs[m]:=by
 rw[List.drop_eq_getElem_cons hm,List.getD_eq_getElem?_getD,List.getElem?_append_right (by omega),ha,Nat.sub_self];rfl
def Moved (u v:Value)(w:World):Prop:=v.ownBlock=u.ownBlock∨∃ g,v.ownBlock=some g∧w.heap.size≤g
def NewIn (os os':List Hd)(w:World):Prop:=∀ x ∈ os',x ∈ os∨∃ g,x.val.ownBlock=some g∧w.heap.size≤g
theorem WkS.set {B Pd Pn Pw Po gd cap:Nat}{A:Option Addr}{n c:Nat}{ov:Value}{s:St}{os:List Hd}{w:World}(h:WkS B Pd Pn Pw Po gd cap A n c ov s os w)
  {base gx nx cx:Nat} {xs:List Value} (hr:w.ownsRow base 3 1 (.slice (some ⟨gx,0,none⟩) nx cx) nx xs) (hg:gx≠gd) (hne:∀ x ∈ os,x.val.ownBlock≠some gx) (m:Nat) (u:Value) :
  WkS B Pd Pn Pw Po gd cap A n c ov s os (w.setCell ⟨gx,m,none⟩ u):=by
 have hk:Kept (fun g=>g=gx) w (w.setCell ⟨gx,m,none⟩ u):=(Kept.refl (fun g=>g=gx) w).setCell (p:=⟨gx,m,none⟩) (Or.inl rfl) u;have hb:∀ {g:Nat} {t:TypeId} {cs:Array Value},Blk w g t cs→3≠t→¬ g=gx:=fun hb ht e=>by
  subst e;exact own_blk_ne' hr hb ht rfl
 exact⟨hk.blk h.bd (hb h.bd (by decide)),hk.own h.row (fun g e1 e2=>by subst e2;injection e1 with e1;exact hg e1.symm),hk.blk h.bn (hb h.bn (by decide)),hk.blk h.bw (hb h.bw (by decide)),hk.blk h.bo (hb h.bo (by decide)),
  h.out.kept hk (fun g e1 e2=>by subst e2;exact own_ne hr h.out.1 (by decide) rfl e1) (fun x hx g e1 e2=>by subst e2;exact hne x hx e1),h.eq,h.bB,h.ne,h.apart⟩
structure WkL (B Pd Pn Pw Po gd cap:Nat)(A:Option Addr)(n c:Nat)(ns:List Nd)(q:Nat)(P:Nat→Prop)(f:Nat)(lv:Int)(zs:List Int)(s:St)(gX gx cx:Nat)(W:World)(ov:Value)(os:List Hd)
  (m:Nat) (ov1:Value) (os1:List Hd) (wr:World):Prop where
 wk:WkS B Pd Pn Pw Po gd cap A n c ov1 (kidsTo ns f lv zs s m).1 os1 wr
 iv:Inv q ns P (kidsTo ns f lv zs s m).1
 kp:Kept (WkT Po gd ov) W wr
 mv:Moved ov ov1 W
 G:Blk wr gX 58 #[.int .i64 lv,.slice (some ⟨gx,0,none⟩) zs.length cx]
 R:OwnIA wr W.heap.size (.slice (some ⟨gx,0,none⟩) zs.length cx) ((kidsTo ns f lv zs s m).2 ++ zs.drop m)
 len:(kidsTo ns f lv zs s m).2.length=m
 ne:∀ x ∈ os1,x.val.ownBlock≠some gx
 new:NewIn os os1 W
 gd_:gd < W.heap.size
 hX:W.heap.size≤gX
 neX:ov1.ownBlock≠some gX
section
variable {B Pd Pn Pw Po gd cap : Nat} {A : Option Addr} {n c : Nat} {ns : List Nd} {q : Nat} {P : Nat → Prop} {f : Nat} {lv : Int} {zs : List Int} {s : St} {gX gx cx : Nat} {W : World} {ov : Value} {os : List Hd}
 {m:Nat} {ov1:Value} {os1:List Hd} {wr:World}
theorem WkL.gxge (h:WkL B Pd Pn Pw Po gd cap A n c ns q P f lv zs s gX gx cx W ov os m ov1 os1 wr):W.heap.size≤gx∧gx < wr.heap.size:=by
 have:=own_lt' h.R (g:=gx) rfl;exact⟨this.2,this.1⟩
theorem WkL.rowlen (h:WkL B Pd Pn Pw Po gd cap A n c ns q P f lv zs s gX gx cx W ov os m ov1 os1 wr)(hm:m≤zs.length):((kidsTo ns f lv zs s m).2 ++ zs.drop m).length=zs.length:=by
 rw[List.length_append,h.len,List.length_drop];omega
theorem WkL.row (h:WkL B Pd Pn Pw Po gd cap A n c ns q P f lv zs s gX gx cx W ov os m ov1 os1 wr)(hm:m≤zs.length):wr.ownsRow W.heap.size 3 1 (.slice (some ⟨gx,0,none⟩) zs.length cx) zs.length (((kidsTo ns f lv zs s m).2 ++ zs.drop m).map (Value.int .i64)):=by
 have:=h.R;unfold OwnIA OwnI at this;rw[h.rowlen hm] at this;exact this
theorem WkL.low (h:WkL B Pd Pn Pw Po gd cap A n c ns q P f lv zs s gX gx cx W ov os m ov1 os1 wr)(hl:¬ 1 < lv)(hm:m < zs.length):WkL B Pd Pn Pw Po gd cap A n c ns q P f lv zs s gX gx cx W ov os (m+1) ov1 os1 wr:=by
 have e0:=kidsTo_low (ns:=ns) (f:=f) (s:=s) (zs:=zs) m hl;have e1:=kidsTo_low (ns:=ns) (f:=f) (s:=s) (zs:=zs) (m+1) hl;refine⟨?_,?_,h.kp,h.mv,h.G,?_,?_,h.ne,h.new,h.gd_,h.hX,h.neX⟩
 ·have:=h.wk;rw[e0] at this;rw[e1];exact this
 ·have:=h.iv;rw[e0] at this;rw[e1];exact this
 ·have:=h.R;rw[e0] at this;rw[e1];dsimp only at this ⊢;rw[List.take_append_drop] at this ⊢;exact this
 ·rw[e1];dsimp only;rw[List.length_take];omega
structure WkC (B Pd Pn Pw Po gd cap:Nat)(A:Option Addr)(n c:Nat)(s2:St)(W:World)(ov1:Value)(os1:List Hd)(ov2:Value)(os2:List Hd)(w:World):Prop where
 wk:WkS B Pd Pn Pw Po gd cap A n c ov2 s2 os2 w
 kp:Kept (WkT Po gd ov1) W w
 mv:Moved ov1 ov2 W
 new:NewIn os1 os2 W
theorem WkS.drew {ov:Value}{s:St}{os:List Hd}{w:World}(h:WkS B Pd Pn Pw Po gd cap A n c ov s os w):WkS B Pd Pn Pw Po gd cap A n c ov s os w.drew:=
 ⟨h.bd,h.row,h.bn,h.bw,h.bo,h.out,h.eq,h.bB,h.ne,h.apart⟩
theorem WkC.undrew {s2:St}{W w:World}{ov1 ov2:Value}{os1 os2:List Hd}(h:WkC B Pd Pn Pw Po gd cap A n c s2 W.drew ov1 os1 ov2 os2 w):WkC B Pd Pn Pw Po gd cap A n c s2 W ov1 os1 ov2 os2 w:=
 ⟨h.wk,⟨⟨h.kp.below.os,h.kp.below.tape,h.kp.below.output,h.kp.below.size,h.kp.below.block⟩,h.kp.block⟩,h.mv,h.new⟩
theorem WkL.far (h:WkL B Pd Pn Pw Po gd cap A n c ns q P f lv zs s gX gx cx W ov os m ov1 os1 wr):¬ WkT Po gd ov1 gx∧¬ WkT Po gd ov1 gX∧¬ WkT Po gd ov1 Pw:=by
 have hx:=h.gxge;have hp:=h.wk.bo.lt;refine⟨?_,?_,?_⟩
 ·rintro (e | e | e)
  ·subst e;exact own_blk_ne' h.R h.wk.bo (by decide) rfl
  ·have:=h.gd_;omega
  ·exact own_ne h.R h.wk.out.1 (by decide) rfl e
 ·rintro (e | e | e)
  ·subst e;exact Blk.ne_ h.G h.wk.bo (by decide) rfl
  ·have:=h.gd_;have:=h.hX;omega
  ·exact h.neX e
 ·rintro (e | e | e)
  ·subst e;exact Blk.ne_ h.wk.bw h.wk.bo (by decide) rfl
  ·subst e;exact own_blk_ne' h.wk.row h.wk.bw (by decide) rfl
  ·exact own_blk_ne' h.wk.out.1 h.wk.bw (by decide) e
theorem Kept.wkT {Po gd:Nat}{ov ov1:Value}{W wr w:World}(h1:Kept (WkT Po gd ov) W wr)(hm:Moved ov ov1 W)(h2:Kept (WkT Po gd ov1) wr w):Kept (WkT Po gd ov) W w:=by
 refine⟨h1.below.trans h2.below,fun g hg hs=>?_⟩;refine (h2.block g (Nat.lt_of_lt_of_le hg h1.below.size) ?_).trans (h1.block g hg hs);rintro (e | e | e)
 ·exact hs (.inl e)
 ·exact hs (.inr (.inl e))
 ·rcases hm with hm | ⟨g',hm,hg'⟩
  ·exact hs (.inr (.inr (by rw[← hm];exact e)))
  ·rw[hm] at e;injection e with e
   omega
theorem Moved.trans {u v x:Value}{w w':World}(h:Moved u v w)(k:Moved v x w')(hw:w.heap.size≤w'.heap.size):Moved u x w:=by
 rcases k with k | ⟨g,k1,k2⟩
 ·rcases h with h | ⟨g,h1,h2⟩
  ·exact .inl (k.trans h)
  ·exact .inr ⟨g,k.trans h1,h2⟩
 ·exact .inr ⟨g,k1,by omega⟩
theorem NewIn.trans {a b c:List Hd}{w w':World}(h:NewIn a b w)(k:NewIn b c w')(hw:w.heap.size≤w'.heap.size):NewIn a c w:=fun x hx=>by
 rcases k x hx with k | ⟨g,k1,k2⟩
 ·exact h x k
 ·exact .inr ⟨g,k1,by omega⟩
theorem WkL.step (h:WkL B Pd Pn Pw Po gd cap A n c ns q P f lv zs s gX gx cx W ov os m ov1 os1 wr)(hl:1 < lv)(hm:m < zs.length){ov2:Value}{os2:List Hd}{w5:World}(hA:Lev q ns P)(hk:P zs[m].toNat)(hf:(ndAt ns zs[m].toNat).1≤f)
  (hc:WkC B Pd Pn Pw Po gd cap A n c (dfs ns f zs[m].toNat (kidsTo ns f lv zs s m).1) wr ov1 os1 ov2 os2 w5) :
  WkL B Pd Pn Pw Po gd cap A n c ns q P f lv zs s gX gx cx W ov os (m+1) ov2 os2 (w5.setCell ⟨gx,m,none⟩ (.int .i64 ((dfs ns f zs[m].toNat (kidsTo ns f lv zs s m).1).1.getD zs[m].toNat 0 - 1))):=by
 obtain⟨f1,f2,f3⟩:=h.far;obtain⟨g1,g2⟩:=h.gxge;have es:=kidsTo_step (ns:=ns) (f:=f) (s:=s) hl hm;have hrow:=hc.kp.own (u:=.slice (some ⟨gx,0,none⟩) zs.length cx) (h.row (Nat.le_of_lt hm)) (fun g e=>by injection e with e;subst e;exact f1);have hne2:∀ x ∈ os2,x.val.ownBlock≠some gx:=fun x hx=>by
  rcases hc.new x hx with hx | ⟨g,e,hg⟩
  ·exact h.ne x hx
  ·rw[e];intro e;injection e with e;omega
 have hgX:=hc.kp.blk h.G f2;have hgd:gx≠gd:=by have:=h.gd_;omega
 refine⟨?_,?_,?_,h.mv.trans hc.mv h.kp.below.size,?_,?_,?_,hne2,h.new.trans hc.new h.kp.below.size,h.gd_,h.hX,?_⟩
 ·rw[es];exact hc.wk.set hrow hgd hne2 m _
 ·rw[es];exact (dfs_ok hA f _ _ hf hk h.iv).1
 ·refine Kept.setCell (h.kp.wkT h.mv hc.kp) (p:=⟨gx,m,none⟩) (.inr g1) _
 ·exact hgX.far (p:=⟨gx,m,none⟩) (fun e=>own_blk_ne' hrow hgX (by decide) (by rw[e];rfl)) _
 ·rw[es];dsimp only;have h5:OwnIA w5 W.heap.size (.slice (some ⟨gx,0,none⟩) zs.length cx) ((kidsTo ns f lv zs s m).2 ++ zs.drop m)  :=hc.kp.own (u:=.slice (some ⟨gx,0,none⟩) zs.length cx) h.R (fun g e=>by injection e with e;subst e;exact f1);have h6:=OwnI.set h5 (h.rowlen (Nat.le_of_lt hm)).symm m ((dfs ns f zs[m].toNat (kidsTo ns f lv zs s m).1).1.getD zs[m].toNat 0 - 1);rw[set_mid h.len hm] at h6;exact h6
 ·rw[es];simp[h.len]
 ·rcases hc.mv with e | ⟨g,e,hg⟩
  ·rw[e];exact h.neX
  ·rw[e];intro e;injection e with e
   have:=h.G.lt;omega
theorem WkL.start (hW:WkS B Pd Pn Pw Po gd cap A n c ov s os W)(hI:Inv q ns P s){w3:World}(hb:Below W.heap.size W w3)(hG:Blk w3 gX 58 #[.int .i64 lv,.slice (some ⟨gx,0,none⟩) zs.length cx])
  (hR:OwnIA w3 W.heap.size (.slice (some ⟨gx,0,none⟩) zs.length cx) zs) (hX:W.heap.size≤gX):WkL B Pd Pn Pw Po gd cap A n c ns q P f lv zs s gX gx cx W ov os 0 ov os w3:=by
 have e:=kidsTo_zero ns f lv zs s;have hgx:=(own_lt' hR (g:=gx) rfl).2;refine⟨?_,by rw[e];exact hI,Kept.of_new _ hb,.inl rfl,hG,by rw[e];exact hR,by rw[e];rfl,fun x hx he=>?_,fun x hx=>.inl hx,(own_lt' hW.row (g:=gd) rfl).1,hX,fun he=>?_⟩
 ·rw[e];obtain⟨a1,a2,a3,a4,a5,a6,a7,a8,a9,a10⟩:=hW;exact⟨a1.below hb a1.lt,a2.ext hb,a3.below hb a3.lt,a4.below hb a4.lt,a5.below hb a5.lt,a6.ext hb,a7,a8,a9,a10⟩
 ·have:=(own_lt' (hW.out.2 x hx) he).1;omega
 ·have:=(own_lt' hW.out.1 he).1;omega
theorem WkL.fin (h:WkL B Pd Pn Pw Po gd cap A n c ns q P f lv zs s gX gx cx W ov os zs.length ov1 os1 wr){k:Nat}(hnd:ndAt ns k=(lv,zs))(h0:¬ 0 < s.1.getD k 0)(hBW:B≤W.heap.size)(hPn:n=n)
  {v6:Value} {w6:World} {z6:List Int} (hz:z6=(kidsTo ns f lv zs s zs.length).2) (hN:OwnNA w6 B v6 (os1 ++ [⟨lv,some ⟨gx,0,none⟩,cx,z6⟩])) (hK:Kept (fun g=>ov1.ownBlock=some g) wr w6) (hm:Moved ov1 v6 wr) :
  WkC B Pd Pn Pw Po gd cap A n c (dfs ns (f+1) k s) W ov os v6 (os1 ++ [⟨lv,some ⟨gx,0,none⟩,cx,z6⟩]) ((w6.setCell ⟨Po,0,none⟩ v6).setCell ⟨gd,k,none⟩ (.int .i64 (os1.length+1:Nat))):=by
 subst hz;have hda:=dfs_all (s:=s) hnd h0 (f:=f);have hlen:(kidsTo ns f lv zs s zs.length).1.2.length=os1.length:=by rw[← h.wk.eq,List.length_map]
 have hne1:¬ ov1.ownBlock=some Pd:=own_blk_ne' h.wk.out.1 h.wk.bd (by decide);have hne2:¬ ov1.ownBlock=some Pn:=own_blk_ne' h.wk.out.1 h.wk.bn (by decide);have hne3:¬ ov1.ownBlock=some Pw:=own_blk_ne' h.wk.out.1 h.wk.bw (by decide);have hne4:¬ ov1.ownBlock=some Po:=own_blk_ne' h.wk.out.1 h.wk.bo (by decide);have hne5:¬ ov1.ownBlock=some gd:=fun e=>own_ne h.wk.row h.wk.out.1 (by decide) rfl e
 -- behind the append
 have b1:=hK.blk h.wk.bd hne1;have b2:=hK.blk h.wk.bn hne2;have b3:=hK.blk h.wk.bw hne3;have b4:=hK.blk h.wk.bo hne4;have b5:=hK.own (u:=.slice (some ⟨gd,0,none⟩) (kidsTo ns f lv zs s zs.length).1.1.length cap) h.wk.row (fun g e=>by injection e with e;subst e;exact hne5)
 -- behind the store to out
 have k7:Kept (fun g=>g=Po) w6 (w6.setCell ⟨Po,0,none⟩ v6):=(Kept.refl (fun g=>g=Po) w6).setCell (p:=⟨Po,0,none⟩) (Or.inl rfl) v6;have c1:=k7.blk b1 (fun e=>Blk.ne_ b1 b4 (by decide) e);have c2:=k7.blk b2 h.wk.ne;have c3:=k7.blk b3 (fun e=>Blk.ne_ b3 b4 (by decide) e);have c4:=b4.set_ 0 v6;have c5:=k7.own b5 (fun g e1 e2=>by subst e2;exact own_blk_ne' b5 b4 (by decide) e1);have c6:OwnNA (w6.setCell ⟨Po,0,none⟩ v6) B v6 (os1 ++ [⟨lv,some ⟨gx,0,none⟩,cx,(kidsTo ns f lv zs s zs.length).2⟩]):=
  OwnN.kept hN k7 (fun g e1 e2=>by subst e2;exact own_blk_ne' hN.1 b4 (by decide) e1) (fun x hx g e1 e2=>by subst e2;exact own_blk_ne' (hN.2 x hx) b4 (by decide) e1)
 -- behind the store to done
 have hap:∀ x ∈ os1 ++ [⟨lv,some ⟨gx,0,none⟩,cx,(kidsTo ns f lv zs s zs.length).2⟩],x.val.ownBlock≠some gd:=by
  intro x hx;rcases List.mem_append.1 hx with hx | hx
  ·exact h.wk.apart x hx
  ·rw[List.mem_singleton] at hx;subst hx;intro e;injection e with e
   have:=h.gxge.1;have:=h.gd_;dsimp only at e;omega
 have k8:Kept (fun g=>g=gd) (w6.setCell ⟨Po,0,none⟩ v6) ((w6.setCell ⟨Po,0,none⟩ v6).setCell ⟨gd,k,none⟩ (.int .i64 (os1.length+1:Nat))):=(Kept.refl (fun g=>g=gd) _).setCell (p:=⟨gd,k,none⟩) (Or.inl rfl) _;have hbn:∀ {g:Nat} {t:TypeId} {cs:Array Value},Blk (w6.setCell ⟨Po,0,none⟩ v6) g t cs→3≠t→¬ g=gd:=fun hb ht e=>by
  subst e;exact own_blk_ne' c5 hb ht rfl
 refine⟨⟨?_,?_,k8.blk c2 (hbn c2 (by decide)),k8.blk c3 (hbn c3 (by decide)),k8.blk c4 (hbn c4 (by decide)),OwnN.kept c6 k8 (fun g e1 e2=>by subst e2;exact own_ne c5 c6.1 (by decide) rfl e1) (fun x hx g e1 e2=>by subst e2;exact hap x hx e1),?_,h.wk.bB,h.wk.ne,hap⟩,?_,?_,?_⟩
 ·rw[hda];dsimp only;rw[List.length_set];exact k8.blk c1 (hbn c1 (by decide))
 ·rw[hda];dsimp only;rw[hlen,List.length_set];exact OwnI.set c5 rfl k _
 ·rw[hda,List.map_append,h.wk.eq];rfl
 ·have k6:Kept (WkT Po gd ov1) wr w6:=hK.mono (fun g _ e=>.inr (.inr e));have k67:Kept (WkT Po gd ov1) wr (w6.setCell ⟨Po,0,none⟩ v6):=k6.setCell (p:=⟨Po,0,none⟩) (.inl (.inl rfl)) v6;exact h.kp.wkT h.mv (k67.setCell (p:=⟨gd,k,none⟩) (.inl (.inr (.inl rfl))) _)
 ·exact h.mv.trans hm h.kp.below.size
 ·intro x hx;rcases List.mem_append.1 hx with hx | hx
  ·exact h.new x hx
  ·rw[List.mem_singleton] at hx;subst hx;exact .inr ⟨gx,rfl,h.gxge.1⟩
end
def WkRel (B Pd Pn Pw Po gd cap:Nat)(A:Option Addr)(n c:Nat)(ns:List Nd)(q:Nat)(P:Nat→Prop)(f:Nat)(lv:Int)(zs:List Int)(s:St)(gX gx cx:Nat)(W:World)(ov:Value)(os:List Hd)(i:Value)(wr:World):Prop:=
 ∃ (m:Nat) (ov1:Value) (os1:List Hd),m≤zs.length∧i=.int .i64 m∧WkL B Pd Pn Pw Po gd cap A n c ns q P f lv zs s gX gx cx W ov os m ov1 os1 wr
structure WkJ (W:World)(gb:Nat)(no:Nat)(n:Nat)(c:Nat)(k:Nat)(lv:Int)(zA:Option Addr)(zc:Nat)(zs:List Int)(b0 b1 b2 b3 b4 b5 b6 b7 b8 b9 b10 b11 b12 b13:Bool)(v20 v21 v22 v23 v24 v25 v26 v27 v28 v29 v30 v31 v7:Value)(w:World):Prop where
 h0:b0=true→v20=.slice (some ⟨gb,no,none⟩) n c
 h1:b1=true→v21=.int .i64 k
 h2:b2=true→v22=.pointer (some ⟨gb,no+k*2,none⟩)
 h3:b3=true→v23=.pointer (some ⟨gb,no+k*2,none⟩)
 h4:b4=true→v24=.int .i64 lv
 h5:b5=true→v25=.slice (some ⟨gb,no,none⟩) n c
 h6:b6=true→v26=.int .i64 k
 h7:b7=true→v27=.pointer (some ⟨gb,no+k*2,none⟩)
 h8:b8=true→v28=.pointer (some ⟨gb,no+k*2+1,none⟩)
 h9:b9=true→v29=.slice zA zs.length zc
 below:Below W.heap.size W w
 hord:b13=true→b11=true∧b12=true
 h10:b10=true→b13=false→∃ gx cx,v30=.slice (some ⟨gx,0,none⟩) zs.length cx∧OwnIA w W.heap.size (.slice (some ⟨gx,0,none⟩) zs.length cx) zs
 h11:b11=true→b13=false→∃ gx cx,v31=.agg #[.int .i64 lv,.slice (some ⟨gx,0,none⟩) zs.length cx]∧OwnIA w W.heap.size (.slice (some ⟨gx,0,none⟩) zs.length cx) zs
 h12:b12=true→b13=false→∃ g,v7=.pointer (some ⟨g,0,none⟩)∧W.heap.size≤g∧Blk w g 58 #[.int .i64 0,.slice none 0 0]
 h13:b13=true→∃ g gx cx,v7=.pointer (some ⟨g,0,none⟩)∧W.heap.size≤g∧Blk w g 58 #[.int .i64 lv,.slice (some ⟨gx,0,none⟩) zs.length cx]∧OwnIA w W.heap.size (.slice (some ⟨gx,0,none⟩) zs.length cx) zs
section
variable {W : World} {gb : Nat} {no : Nat} {n : Nat} {c : Nat} {k : Nat} {lv : Int} {zA : Option Addr} {zc : Nat} {zs : List Int} {b0 b1 b2 b3 b4 b5 b6 b7 b8 b9 b10 b11 b12 b13 : Bool} {v20 v21 v22 v23 v24 v25 v26 v27 v28 v29 v30 v31 v7 : Value} {w w' : World}
theorem WkJ.world (H:WkJ W gb no n c k lv zA zc zs b0 b1 b2 b3 b4 b5 b6 b7 b8 b9 b10 b11 b12 b13 v20 v21 v22 v23 v24 v25 v26 v27 v28 v29 v30 v31 v7 w)(hb:Below w.heap.size w w'):WkJ W gb no n c k lv zA zc zs b0 b1 b2 b3 b4 b5 b6 b7 b8 b9 b10 b11 b12 b13 v20 v21 v22 v23 v24 v25 v26 v27 v28 v29 v30 v31 v7 w':=
 {H with below:=H.below.trans (hb.mono H.below.size),h10:=fun h h2=>(by obtain⟨gx,cx,e,ho⟩:=H.h10 h h2;exact⟨gx,cx,e,ho.ext hb⟩),h11:=fun h h2=>(by obtain⟨gx,cx,e,ho⟩:=H.h11 h h2;exact⟨gx,cx,e,ho.ext hb⟩),h12:=fun h h2=>(by obtain⟨g,e,hg,hB⟩:=H.h12 h h2;exact⟨g,e,hg,hB.below hb hB.lt⟩),h13:=fun h=>(by obtain⟨g,gx,cx,e,hg,hB,ho⟩:=H.h13 h;exact⟨g,gx,cx,e,hg,hB.below hb hB.lt,ho.ext hb⟩) }
end
structure WkJ2 (W:World)(gX:Nat)(gx:Nat)(cx:Nat)(n:Nat)(Pd:Nat)(Pn:Nat)(Pw:Nat)(Po:Nat)(m:Nat)(z:Int)(vl:Int)(CP:World→Prop)(b0 b1 b2 b3 b4 b5 b6 b7:Bool)(v43 v44 v45 v46 v47 v48 v49:Value)(w:World):Prop where
 h0:b0=true→v43=.pointer (some ⟨gX,1,none⟩)
 h1:b1=true→v44=.slice (some ⟨gx,0,none⟩) n cx
 h2:b2=true→v45=.int .i64 m
 h3:b3=true→v46=.func (.func 104) #[] #[.pointer (some ⟨Pd,0,none⟩),.pointer (some ⟨Pn,0,none⟩),.pointer (some ⟨Pw,0,none⟩),.pointer (some ⟨Po,0,none⟩)]
 h4:b4=true→v47=.int .i64 z
 h6:b6=true→v49=.pointer (some ⟨gx,m,none⟩)
 wa:b5=false→w=W.drew
 h5:b5=true→b7=false→v48=.int .i64 vl∧CP w
 hord:b7=true→b1=true∧b3=true∧b5=true
 h7:b7=true→∃ w5,CP w5∧w=w5.setCell ⟨gx,m,none⟩ (.int .i64 vl)

def WalkPost (B Pd Pn Pw Po gd cap:Nat)(A:Option Addr)(n c:Nat)(ov:Value)(os:List Hd)(ns:List Nd)(f k:Nat)(s:St)(w:World)(e:Ending)(w':World):Prop:=
 ∃ ov' os',e=.returned (.int .i64 ((dfs ns f k s).1.getD k 0 - 1))∧WkC B Pd Pn Pw Po gd cap A n c (dfs ns f k s) w ov os ov' os' w'
set_option maxHeartbeats 16000000 in
theorem walk_any (B Pd Pn Pw Po gd cap:Nat)(A:Option Addr)(c:Nat)(hs:List Hd)(W0:World)(hN:Nds W0 A hs)(h0:W0.heap.size≤B)(q:Nat)(P:Nat→Prop)(hq0:0 < q)(hq1:q≤1000)
  (hA:Lev q (hs.map Hd.nd) P) (hl:hs.length < 1000000000000) :
  ∀ (f k:Nat) (s:St) (ov:Value) (os:List Hd) (w:World),(ndAt (hs.map Hd.nd) k).1≤f→P k→Inv q (hs.map Hd.nd) P s→WkS B Pd Pn Pw Po gd cap A hs.length c ov s os w→Below B W0 w→B≤w.heap.size→
  Calls Tryz.prog 104 #[.int .i64 k,.pointer (some ⟨Pd,0,none⟩),.pointer (some ⟨Pn,0,none⟩),.pointer (some ⟨Pw,0,none⟩),.pointer (some ⟨Po,0,none⟩)] w
   (WalkPost B Pd Pn Pw Po gd cap A hs.length c ov os (hs.map Hd.nd) f k s w):=by
 intro f;induction f with
 | zero=>
  intro k s ov os w hf hk;have:=hA.one k hk;omega
 | succ f ih=>
  intro k s ov os w hf hk hI hW hb hBw;have hkl:k < hs.length:=by have:=hA.lt k hk;rwa [List.length_map] at this
  have hsl:s.1.length=hs.length:=by rw[hI.len,List.length_map]
  have hkl2:k < s.1.length:=by omega
  obtain⟨hck,hfk⟩:=hW.row.cellk hkl2;have hcd:=hW.bd.cell_ 0 (.slice (some ⟨gd,0,none⟩) s.1.length cap) rfl;have hcn:=hW.bn.cell_ 0 (.slice A hs.length c) rfl;have HW:=hid hW;have HI:=hid hI;have HB:=hid hb;have HIH:=hid ih;have hse:=hI.le;rw[List.length_map] at hse;obtain⟨d,hd⟩:∃ d,d=s.1.getD k 0:=⟨_,rfl⟩
  rw[← hd] at hck;have hnn:=hI.nn k;rw[← hd] at hnn;have hpos:0 < d→d≤1000000000000:=fun h=>by
   have:=(hI.num k hk (by rw[← hd];exact h)).1;rw[← hd] at this;omega
  have HD:=hid hd;clear hd hW hI hb ih;by_cases h0:0 < d
  ·have d0:decide (0 < d)=true:=decide_eq_true h0;have hwr:wrap64 (d - 1)=d - 1:=by have:=hpos h0;unfold wrap64;omega
   have HE:Hid (dfs (hs.map Hd.nd) (f+1) k s=s):=hid (by rw[dfs_succ,if_pos (by rw[← HD.out];exact h0)]);clear h0 hpos;go_enter Tryz.func104,Tryz.ntmps104;go_wp2;go_ret;refine⟨ov,os,?_,by rw[HE.out];exact HW.out,Kept.refl _ _,.inl rfl,fun x hx=>.inl hx⟩;rw[HE.out,← HD.out,hwr] <;> rfl
  ·have d0:decide (0 < d)=false:=decide_eq_false h0;have HD0:Hid (¬ 0 < s.1.getD k 0):=hid (by rw[← HD.out];exact h0);clear h0 hpos hnn hfk HD;go_enter Tryz.func104,Tryz.ntmps104;have hNw:Nds w A hs:=hN.ext (HB.out.mono h0);obtain⟨nb,no,e1,hnb,hc0,hc1,hzI⟩:=hNw.at_ hkl;have hndk:=nd_at hs hkl;have hzq:=hA.len k hk;have hlv1:=hA.one k hk;have HKID:=hid (hA.kids k hk);obtain⟨x,hx⟩:∃ x,x=hs[k]:=⟨_,rfl⟩
   rw[← hx] at hc0 hc1 hzI hndk;obtain⟨lv,zA,zc,zs⟩:=x;dsimp only at hc0 hc1 hzI;change ndAt (hs.map Hd.nd) k=(lv,zs) at hndk;rw[hndk] at hzq hlv1 HKID;dsimp only at hzq hlv1 HKID;have hf':lv≤(f:Int)+1:=by
    have h:=hf;rw[hndk] at h;push_cast at h;exact h
   have HND:=hid hndk;have HNW:=hid hNw;have HZI:=hid hzI;have HC:=hid (And.intro hnb (And.intro hc0 hc1));rw[hsl] at hcd;have HSL:=hid hsl;have HZQ:=hid hzq;have hzl:zs.length≤1000:=by omega
   have hzp:0 < zs.length:=by omega
   clear hx hndk hNw hzI hf hc0 hc1 hsl hzq;subst e1;go_upto_region 3 with fail
   refine wp_region_J (by kernel_rfl) (fun listed act w'=>∃ b0 b1 b2 b3 b4 b5 b6 b7 b8 b9 b10 b11 b12 b13 v20 v21 v22 v23 v24 v25 v26 v27 v28 v29 v30 v31 v7,listed=#[b0,b1,b2,b3,b4,b5,b6,b7,b8,b9,b10,b11,b12,b13]∧act=Act.mk #[.int .i64 k,.pointer (some ⟨Pd,0,none⟩),.pointer (some ⟨Pn,0,none⟩),.pointer (some ⟨Pw,0,none⟩),.pointer (some ⟨Po,0,none⟩),undef,.int .i64 0,v7,undef,undef,.slice (some ⟨gd,0,none⟩) hs.length cap,.int .i64 k,.pointer (some ⟨gd,k,none⟩),.int .i64 d,.bool false,undef,undef,undef,undef,undef,v20,v21,v22,v23,v24,v25,v26,v27,v28,v29,v30,v31,undef,undef,undef,undef,undef,undef,undef,undef,undef,undef,undef,undef,undef,undef,undef,undef,undef,undef,undef,undef,undef,undef,undef,undef,undef,undef,undef,undef,undef,undef,undef] []∧WkJ w nb no hs.length c k lv zA zc zs b0 b1 b2 b3 b4 b5 b6 b7 b8 b9 b10 b11 b12 b13 v20 v21 v22 v23 v24 v25 v26 v27 v28 v29 v30 v31 v7 w') ?_ ?_ ?_
   ·exact (e_8 (e_8 (e_8 (e_2 (e_1 ⟨rfl,rfl,(by constructor;(case below=>exact ((Below.refl _ w).drew));all_goals simp)⟩)))))
   ·rintro i listed act w' hi ⟨b0,b1,b2,b3,b4,b5,b6,b7,b8,b9,b10,b11,b12,b13,v20,v21,v22,v23,v24,v25,v26,v27,v28,v29,v30,v31,v7,rfl,rfl,H⟩;have hi16:i < 14:=by
     obtain⟨-,o,ho,-⟩:=mem_ready.1 hi;exact (Array.getElem?_eq_some_iff.1 ho).1
    obtain rfl | rfl | rfl | rfl | rfl | rfl | rfl | rfl | rfl | rfl | rfl | rfl | rfl | rfl:i=0∨i=1∨i=2∨i=3∨i=4∨i=5∨i=6∨i=7∨i=8∨i=9∨i=10∨i=11∨i=12∨i=13:=by omega
    all_goals simp[mem_ready,Region.binds] at hi
    ·have ccn:=(H.below.cell (p:=⟨Pn,0,none⟩) HW.out.bn.lt).trans hcn;refine wpOp_hidden rfl fun K hK=>?_;go_wp2;refine OnlyN.mk (hK.out _ _ (e_8 (e_8 (e_8 (e_2 (e_1 ⟨rfl,rfl,{ H with h0:=fun _=>rfl }⟩))))))
    ·refine wpOp_hidden rfl fun K hK=>?_;go_wp2;refine OnlyN.mk (hK.out _ _ (e_8 (e_8 (e_8 (e_2 (e_1 ⟨rfl,rfl,{ H with h1:=fun _=>rfl }⟩))))))
    ·obtain rfl:=H.h0 (by simp[hi]);obtain rfl:=H.h1 (by simp[hi]);refine wpOp_hidden rfl fun K hK=>?_;go_wp2;refine OnlyN.mk (hK.out _ _ (e_8 (e_8 (e_8 (e_2 (e_1 ⟨rfl,rfl,{ H with h2:=fun _=>rfl }⟩))))))
    ·obtain rfl:=H.h2 (by simp[hi]);refine wpOp_hidden rfl fun K hK=>?_;go_wp2;refine OnlyN.mk (hK.out _ _ (e_8 (e_8 (e_8 (e_2 (e_1 ⟨rfl,rfl,{ H with h3:=fun _=>rfl }⟩))))))
    ·obtain rfl:=H.h3 (by simp[hi]);have cc:=(H.below.cell (p:=⟨nb,no+k*2,none⟩) HC.out.1).trans HC.out.2.1;refine wpOp_hidden rfl fun K hK=>?_;go_wp2;refine OnlyN.mk (hK.out _ _ (e_8 (e_8 (e_8 (e_2 (e_1 ⟨rfl,rfl,{ H with h4:=fun _=>rfl }⟩))))))
    ·have ccn:=(H.below.cell (p:=⟨Pn,0,none⟩) HW.out.bn.lt).trans hcn;refine wpOp_hidden rfl fun K hK=>?_;go_wp2;refine OnlyN.mk (hK.out _ _ (e_8 (e_8 (e_8 (e_2 (e_1 ⟨rfl,rfl,{ H with h5:=fun _=>rfl }⟩))))))
    ·refine wpOp_hidden rfl fun K hK=>?_;go_wp2;refine OnlyN.mk (hK.out _ _ (e_8 (e_8 (e_8 (e_2 (e_1 ⟨rfl,rfl,{ H with h6:=fun _=>rfl }⟩))))))
    ·obtain rfl:=H.h5 (by simp[hi]);obtain rfl:=H.h6 (by simp[hi]);refine wpOp_hidden rfl fun K hK=>?_;go_wp2;refine OnlyN.mk (hK.out _ _ (e_8 (e_8 (e_8 (e_2 (e_1 ⟨rfl,rfl,{ H with h7:=fun _=>rfl }⟩))))))
    ·obtain rfl:=H.h7 (by simp[hi]);refine wpOp_hidden rfl fun K hK=>?_;go_wp2;refine OnlyN.mk (hK.out _ _ (e_8 (e_8 (e_8 (e_2 (e_1 ⟨rfl,rfl,{ H with h8:=fun _=>rfl }⟩))))))
    ·obtain rfl:=H.h8 (by simp[hi]);have cc:=(H.below.cell (p:=⟨nb,no+k*2+1,none⟩) HC.out.1).trans HC.out.2.2;refine wpOp_hidden rfl fun K hK=>?_;go_wp2;refine OnlyN.mk (hK.out _ _ (e_8 (e_8 (e_8 (e_2 (e_1 ⟨rfl,rfl,{ H with h9:=fun _=>rfl }⟩))))))
    ·obtain rfl:=H.h9 (by simp[hi]);have HCX:=hid (clone_ints zA zc zs w' (HZI.out.ext H.below) (by omega));refine wpOp_hidden rfl fun K hK=>?_;go_wp2_with (go_at_call 79;refine HCX.out.mono ?_);rintro e w9 v rfl ho hb9;obtain⟨gx,cx,hv,-,-⟩:=ho.some_ (by omega);subst hv;have HA:=hid (H.world hb9);have HO:=hid (ho.down H.below.size);clear H hb9 ho;go_wp2;refine OnlyN.mk (hK.out _ _ (e_8 (e_8 (e_8 (e_2 (e_1 ⟨rfl,rfl,⟨HA.out.h0,HA.out.h1,HA.out.h2,HA.out.h3,HA.out.h4,HA.out.h5,HA.out.h6,HA.out.h7,HA.out.h8,HA.out.h9,HA.out.below,HA.out.hord,fun _ _=>⟨gx,cx,rfl,HO.out⟩,HA.out.h11,HA.out.h12,HA.out.h13⟩⟩))))))
    ·obtain rfl:=H.h4 (by simp[hi]);have h13:b13=false:=by
      cases hb:b13 with
      | false=>rfl
      | true=>exact absurd (H.hord hb).1 (by simp[hi])
     obtain⟨gx,cx,hv,ho⟩:=H.h10 (by simp[hi]) h13;subst hv;have HO:=hid ho;clear ho;refine wpOp_hidden rfl fun K hK=>?_;go_wp2;refine OnlyN.mk (hK.out _ _ (e_8 (e_8 (e_8 (e_2 (e_1 ⟨rfl,rfl,{ H with hord:=fun h=>⟨rfl,(H.hord h).2⟩,h11:=fun _ _=>⟨gx,cx,rfl,HO.out⟩ }⟩))))))
    ·have hbn:=below_new w' (.cells #[.int .i64 0,.slice none 0 0] 58);have HA:=hid (H.world hbn);have HG:=hid (Blk.new w' 58 #[.int .i64 0,.slice none 0 0]);have HS:=hid H.below.size;clear H hbn;refine wpOp_hidden rfl fun K hK=>?_;go_wp2;refine OnlyN.mk (hK.out _ _ (e_8 (e_8 (e_8 (e_2 (e_1 ⟨rfl,rfl,⟨HA.out.h0,HA.out.h1,HA.out.h2,HA.out.h3,HA.out.h4,HA.out.h5,HA.out.h6,HA.out.h7,HA.out.h8,HA.out.h9,HA.out.below,fun h=>⟨(HA.out.hord h).1,rfl⟩,HA.out.h10,HA.out.h11,fun _ _=>⟨_,rfl,HS.out,HG.out⟩,fun h=>absurd (HA.out.hord h).2 (by simp[hi])⟩⟩))))))
    ·obtain⟨g,hv7,hg,hB7⟩:=H.h12 (by simp[hi]) (by simp[hi]);obtain⟨gx,cx,hv,ho⟩:=H.h11 (by simp[hi]) (by simp[hi]);subst hv7 hv;have c0:=hB7.cell_ 0 _ rfl;have c1:=hB7.cell_ 1 (.slice none 0 0) rfl;have f0:=hB7.frozen 0;have f1:=hB7.frozen 1;have hg0:Blk ((w'.setCell ⟨g,0,none⟩ (.int .i64 lv)).setCell ⟨g,1,none⟩ (.slice (some ⟨gx,0,none⟩) zs.length cx)) g 58 #[.int .i64 lv,.slice (some ⟨gx,0,none⟩) zs.length cx]:=(hB7.set_ 0 (.int .i64 lv)).set_ 1 (.slice (some ⟨gx,0,none⟩) zs.length cx);have hkk:Kept (fun x=>x=g) w' ((w'.setCell ⟨g,0,none⟩ (.int .i64 lv)).setCell ⟨g,1,none⟩ (.slice (some ⟨gx,0,none⟩) zs.length cx)):=((Kept.refl (fun x=>x=g) w').setCell (p:=⟨g,0,none⟩) (Or.inl rfl) _).setCell (p:=⟨g,1,none⟩) (Or.inl rfl) _;have ho2:=hkk.own ho (fun x hx e=>by subst e;exact own_blk_ne' ho hB7 (by decide) hx);have HF:=hid (And.intro hg (And.intro hg0 ho2));have HBL:Hid (Below w.heap.size w ((w'.setCell ⟨g,0,none⟩ (.int .i64 lv)).setCell ⟨g,1,none⟩ (.slice (some ⟨gx,0,none⟩) zs.length cx))):=hid ((H.below.setCell (p:=⟨g,0,none⟩) hg _).setCell (p:=⟨g,1,none⟩) hg _);clear hg hg0 hkk ho2 ho;refine wpOp_hidden rfl fun K hK=>?_;go_wp2;refine OnlyN.mk (hK.out _ _ (e_8 (e_8 (e_8 (e_2 (e_1 ⟨rfl,rfl,{ H with below:=HBL.out,hord:=fun _=>⟨(by simp[hi]),(by simp[hi])⟩,h10:=fun _ h=>(by cases h),h11:=fun _ h=>(by cases h),h12:=fun _ h=>(by cases h),h13:=fun _=>⟨g,gx,cx,rfl,HF.out.1,HF.out.2.1,HF.out.2.2⟩ }⟩))))))
   ·rintro listed act w' hr ⟨b0,b1,b2,b3,b4,b5,b6,b7,b8,b9,b10,b11,b12,b13,v20,v21,v22,v23,v24,v25,v26,v27,v28,v29,v30,v31,v7,rfl,rfl,H⟩;have hn:=List.eq_nil_iff_forall_not_mem.1 hr;have r0:=hn 0;simp[mem_ready,Region.binds] at r0;subst r0;have r1:=hn 1;simp[mem_ready,Region.binds] at r1;subst r1;have r2:=hn 2;simp[mem_ready,Region.binds] at r2;subst r2;have r3:=hn 3;simp[mem_ready,Region.binds] at r3;subst r3;have r4:=hn 4;simp[mem_ready,Region.binds] at r4;subst r4;have r5:=hn 5;simp[mem_ready,Region.binds] at r5;subst r5;have r6:=hn 6;simp[mem_ready,Region.binds] at r6;subst r6;have r7:=hn 7;simp[mem_ready,Region.binds] at r7;subst r7;have r8:=hn 8;simp[mem_ready,Region.binds] at r8;subst r8;have r9:=hn 9;simp[mem_ready,Region.binds] at r9;subst r9;have r10:=hn 10;simp[mem_ready,Region.binds] at r10;subst r10;have r11:=hn 11;simp[mem_ready,Region.binds] at r11;subst r11;have r12:=hn 12;simp[mem_ready,Region.binds] at r12;subst r12;have r13:=hn 13;simp[mem_ready,Region.binds] at r13;subst r13;dsimp only;obtain⟨gX,gx,cx,hv7,hgX,hBX,hoX⟩:=H.h13 rfl;obtain rfl:=H.h0 rfl;obtain rfl:=H.h1 rfl;obtain rfl:=H.h2 rfl;obtain rfl:=H.h3 rfl;obtain rfl:=H.h4 rfl;obtain rfl:=H.h5 rfl;obtain rfl:=H.h6 rfl;obtain rfl:=H.h7 rfl;obtain rfl:=H.h8 rfl;obtain rfl:=H.h9 rfl;subst hv7;obtain⟨w3,hw3⟩:∃ w3:World,w3=w':=⟨_,rfl⟩
    subst hw3;have HX3:=hid (And.intro hgX (And.intro hBX hoX));have HB3:=hid H.below;clear H hr hn hgX hBX hoX;have HL0:Hid (WkL B Pd Pn Pw Po gd cap (some ⟨nb,no,none⟩) hs.length c (hs.map Hd.nd) q P f lv zs s gX gx cx w ov os 0 ov os w3):=hid (WkL.start HW.out HI.out HB3.out HX3.out.2.1 HX3.out.2.2 HX3.out.1);have hcX1:=HX3.out.2.1.cell_ 1 (.slice (some ⟨gx,0,none⟩) zs.length cx) rfl;have HLN:=hid hl;have HKL:=hid hkl;have HBW:=hid hBw;have HZL:=hid hzl;have HF:=hid hf';have HLV:=hid hlv1;clear hcd hcn hck HX3 HB3 hl hse hkl hkl2 hq0 hq1 h0 hBw d0 hzl hzp hnb hf' hlv1;go_wp2;clear hcX1;go_loopw [35] (fun i wr=>WkRel B Pd Pn Pw Po gd cap (some ⟨nb,no,none⟩) hs.length c (hs.map Hd.nd) q P f lv zs s gX gx cx w ov os i wr) (fun i _=>zs.length - (intOf i).toNat)
    case atStart=>exact⟨0,ov,os,Nat.zero_le _,rfl,HL0.out⟩
    case round=>
     clear HL0;obtain⟨m,ov1,os1,hm,rfl,hLr⟩:=hrel;have HL:=hid hLr;clear hLr;by_cases hlt:m < zs.length
     ·obtain⟨hcm,hfm⟩:=HL.out.R.cellk (k:=m) (by rw[HL.out.rowlen hm];exact hlt);rw[get_mid HL.out.len hlt] at hcm;have hcX0:=HL.out.G.cell_ 0 (.int .i64 lv) rfl;have hw1:wrap64 ((m:Int)+1)=(m:Int)+1:=by have:=HZL.out;unfold wrap64;omega
      by_cases hl1:1 < lv
      ·have d1:decide (1 < lv)=true:=decide_eq_true hl1;have HKM:=HKID.out hl1 zs[m] (List.getElem_mem hlt);obtain⟨z,hz⟩:∃ z,z=zs[m]:=⟨_,rfl⟩
       have hz0:((z.toNat:Nat):Int)=z:=by rw[hz];have:=HKM.1;omega
       have hfz:(ndAt (hs.map Hd.nd) zs[m].toNat).1≤f:=by rw[HKM.2.2];have:=HF.out;omega
       have hih:=HIH.out zs[m].toNat (kidsTo (hs.map Hd.nd) f lv zs s m).1 ov1 os1 wr.drew hfz HKM.2.1 HL.out.iv HL.out.wk.drew ((HB.out.trans ((HL.out.kp.to_below HBW.out (fun g hg hT=>by
        rcases hT with e | e | e
        ·have:=HW.out.bB;omega
        ·have:=(own_lt' HW.out.row (g:=gd) rfl).2;omega
        ·have:=(own_lt' HW.out.out.1 e).2;omega)))).drew) (Nat.le_trans HBW.out HL.out.kp.below.size)
       obtain⟨CP,hCP⟩:∃ CP:World→Prop,CP=fun w'=>∃ ov2 os2,WkC B Pd Pn Pw Po gd cap (some ⟨nb,no,none⟩) hs.length c (dfs (hs.map Hd.nd) f zs[m].toNat (kidsTo (hs.map Hd.nd) f lv zs s m).1) wr ov1 os1 ov2 os2 w':=⟨_,rfl⟩
       obtain⟨vl,hvl⟩:∃ vl:Int,vl=(dfs (hs.map Hd.nd) f zs[m].toNat (kidsTo (hs.map Hd.nd) f lv zs s m).1).1.getD zs[m].toNat 0 - 1:=⟨_,rfl⟩
       have HCALL:Hid (Calls Tryz.prog 104 #[.int .i64 z,.pointer (some ⟨Pd,0,none⟩),.pointer (some ⟨Pn,0,none⟩),.pointer (some ⟨Pw,0,none⟩),.pointer (some ⟨Po,0,none⟩)] wr.drew (fun e w'=>e=.returned (.int .i64 vl)∧CP w')):=hid (by
        rw[← hz,hz0] at hih;refine hih.mono ?_;rintro e w9 ⟨ov2,os2,he,hc⟩;rw[hCP,hvl,he,hz];refine⟨rfl,ov2,os2,?_⟩;rw[← hz];exact hc.undrew)
       have HC1:Hid (∀ w',CP w'→w'.cell? ⟨gX,1,none⟩=some (.slice (some ⟨gx,0,none⟩) zs.length cx)∧w'.cell? ⟨Pw,0,none⟩=some (.func (.func 104) #[] #[.pointer (some ⟨Pd,0,none⟩),.pointer (some ⟨Pn,0,none⟩),.pointer (some ⟨Pw,0,none⟩),.pointer (some ⟨Po,0,none⟩)])∧
         w'.cell? ⟨gx,m,none⟩=some (.int .i64 z)∧w'.frozen? ⟨gx,m,none⟩=false):=hid (fun w' hw'=>by
        rw[hCP] at hw';obtain⟨ov2,os2,hc⟩:=hw';obtain⟨f1,f2,f3⟩:=HL.out.far;have h1:=(hc.kp.blk HL.out.G f2).cell_ 1 (.slice (some ⟨gx,0,none⟩) zs.length cx) rfl;have h2:=(hc.kp.blk HL.out.wk.bw f3).cell_ 0 _ rfl;have h3:OwnIA w' w.heap.size (.slice (some ⟨gx,0,none⟩) zs.length cx) ((kidsTo (hs.map Hd.nd) f lv zs s m).2 ++ zs.drop m):=hc.kp.own (u:=.slice (some ⟨gx,0,none⟩) zs.length cx) HL.out.R (fun g e=>by injection e with e;subst e;exact f1);obtain⟨h4,h5⟩:=h3.cellk (k:=m) (by rw[HL.out.rowlen hm];exact hlt);rw[get_mid HL.out.len hlt,← hz] at h4;exact⟨h1,h2,h4,h5⟩)
       have HC2:Hid (∀ w',CP w'→∃ ov2 os2,WkL B Pd Pn Pw Po gd cap (some ⟨nb,no,none⟩) hs.length c (hs.map Hd.nd) q P f lv zs s gX gx cx w ov os (m+1) ov2 os2 (w'.setCell ⟨gx,m,none⟩ (.int .i64 vl))):=hid (fun w' hw'=>by
        rw[hCP] at hw';obtain⟨ov2,os2,hc⟩:=hw';rw[hvl];exact⟨ov2,os2,HL.out.step hl1 hlt hA HKM.2.1 hfz hc⟩)
       rw[← hz] at hcm;have hcX1:=HL.out.G.cell_ 1 (.slice (some ⟨gx,0,none⟩) zs.length cx) rfl;have hcW:=HL.out.wk.bw.cell_ 0 (.func (.func 104) #[] #[.pointer (some ⟨Pd,0,none⟩),.pointer (some ⟨Pn,0,none⟩),.pointer (some ⟨Pw,0,none⟩),.pointer (some ⟨Po,0,none⟩)]) rfl;have HCX1:=hid hcX1;have HCW:=hid hcW;clear hz hl1 HKM hz0 hfz hih hCP hvl hcX1 hcW;go_upto_region 8 with fail
       refine wp_region_J (by kernel_rfl) (fun listed act w'=>∃ b0 b1 b2 b3 b4 b5 b6 b7 v43 v44 v45 v46 v47 v48 v49,listed=#[b0,b1,b2,b3,b4,b5,b6,b7]∧act=Act.mk #[.int .i64 k,.pointer (some ⟨Pd,0,none⟩),.pointer (some ⟨Pn,0,none⟩),.pointer (some ⟨Pw,0,none⟩),.pointer (some ⟨Po,0,none⟩),undef,.int .i64 0,.pointer (some ⟨gX,0,none⟩),.int .i64 m,.int .i64 z,.slice (some ⟨gd,0,none⟩) hs.length cap,.int .i64 k,.pointer (some ⟨gd,k,none⟩),.int .i64 d,.bool false,undef,undef,undef,undef,undef,.slice (some ⟨nb,no,none⟩) hs.length c,.int .i64 k,.pointer (some ⟨nb,no+k*2,none⟩),.pointer (some ⟨nb,no+k*2,none⟩),.int .i64 lv,.slice (some ⟨nb,no,none⟩) hs.length c,.int .i64 k,.pointer (some ⟨nb,no+k*2,none⟩),.pointer (some ⟨nb,no+k*2+1,none⟩),.slice zA zs.length zc,v30,v31,.pointer (some ⟨gX,1,none⟩),.slice (some ⟨gx,0,none⟩) zs.length cx,.int .i64 zs.length,.int .i64 m,.bool true,.int .i64 m,.pointer (some ⟨gx,m,none⟩),.int .i64 z,.pointer (some ⟨gX,0,none⟩),.int .i64 lv,.bool true,v43,v44,v45,v46,v47,v48,v49,u50,undef,undef,undef,undef,undef,undef,undef,undef,undef,undef,undef,undef] []∧WkJ2 wr gX gx cx zs.length Pd Pn Pw Po m z vl CP b0 b1 b2 b3 b4 b5 b6 b7 v43 v44 v45 v46 v47 v48 v49 w') ?_ ?_ ?_
       ·exact (e_8 (e_4 (e_2 (e_1 ⟨rfl,rfl,(by constructor;(case wa=>exact (fun _=>rfl));all_goals simp)⟩))))
       ·rintro i listed act w' hi ⟨b0,b1,b2,b3,b4,b5,b6,b7,v43,v44,v45,v46,v47,v48,v49,rfl,rfl,H⟩;have hi16:i < 8:=by
         obtain⟨-,o,ho,-⟩:=mem_ready.1 hi;exact (Array.getElem?_eq_some_iff.1 ho).1
        obtain rfl | rfl | rfl | rfl | rfl | rfl | rfl | rfl:i=0∨i=1∨i=2∨i=3∨i=4∨i=5∨i=6∨i=7:=by omega
        all_goals simp[mem_ready,Region.binds] at hi
        ·refine wpOp_hidden rfl fun K hK=>?_;go_wp2;refine OnlyN.mk (hK.out _ _ (e_8 (e_4 (e_2 (e_1 ⟨rfl,rfl,{ H with h0:=fun _=>rfl }⟩)))))
        ·obtain rfl:=H.h0 (by simp[hi]);have h7f:b7=false:=by
          cases hb:b7 with
          | false=>rfl
          | true=>exact absurd (H.hord hb).1 (by simp[hi])
         have hcc:w'.cell? ⟨gX,1,none⟩=some (.slice (some ⟨gx,0,none⟩) zs.length cx):=by
          cases hb5:b5 with
          | false=>rw[H.wa hb5];exact HCX1.out
          | true=>exact (HC1.out _ (H.h5 hb5 h7f).2).1
         clear h7f;refine wpOp_hidden rfl fun K hK=>?_;go_wp2;refine OnlyN.mk (hK.out _ _ (e_8 (e_4 (e_2 (e_1 ⟨rfl,rfl,{ H with h1:=fun _=>rfl,hord:=fun h=>⟨rfl,(H.hord h).2⟩ }⟩)))))
        ·refine wpOp_hidden rfl fun K hK=>?_;go_wp2;refine OnlyN.mk (hK.out _ _ (e_8 (e_4 (e_2 (e_1 ⟨rfl,rfl,{ H with h2:=fun _=>rfl }⟩)))))
        ·have h7f:b7=false:=by
          cases hb:b7 with
          | false=>rfl
          | true=>exact absurd (H.hord hb).2.1 (by simp[hi])
         have hcc:w'.cell? ⟨Pw,0,none⟩=some (.func (.func 104) #[] #[.pointer (some ⟨Pd,0,none⟩),.pointer (some ⟨Pn,0,none⟩),.pointer (some ⟨Pw,0,none⟩),.pointer (some ⟨Po,0,none⟩)]):=by
          cases hb5:b5 with
          | false=>rw[H.wa hb5];exact HCW.out
          | true=>exact (HC1.out _ (H.h5 hb5 h7f).2).2.1
         clear h7f;refine wpOp_hidden rfl fun K hK=>?_;go_wp2;refine OnlyN.mk (hK.out _ _ (e_8 (e_4 (e_2 (e_1 ⟨rfl,rfl,{ H with h3:=fun _=>rfl,hord:=fun h=>⟨(H.hord h).1,rfl,(H.hord h).2.2⟩ }⟩)))))
        ·refine wpOp_hidden rfl fun K hK=>?_;go_wp2;refine OnlyN.mk (hK.out _ _ (e_8 (e_4 (e_2 (e_1 ⟨rfl,rfl,{ H with h4:=fun _=>rfl }⟩)))))
        ·obtain rfl:=H.h3 (by simp[hi]);obtain rfl:=H.h4 (by simp[hi]);have hw:=H.wa (by simp[hi]);subst hw;have h7f:b7=false:=by
          cases hb:b7 with
          | false=>rfl
          | true=>exact absurd (H.hord hb).2.2 (by simp[hi])
         subst h7f;refine wpOp_hidden rfl fun K hK=>?_;go_wp2_with (go_at_call 104;refine HCALL.out.mono ?_);rintro e w9 rfl hcp;have HCP:=hid hcp;clear hcp;go_wp2;refine OnlyN.mk (hK.out _ _ (e_8 (e_4 (e_2 (e_1 ⟨rfl,rfl,{ H with wa:=fun h=>(by cases h),h5:=fun _ _=>⟨rfl,HCP.out⟩,hord:=fun h=>(by cases h),h7:=fun h=>(by cases h) }⟩)))))
        ·obtain rfl:=H.h1 (by simp[hi]);obtain rfl:=H.h2 (by simp[hi]);refine wpOp_hidden rfl fun K hK=>?_;go_wp2;refine OnlyN.mk (hK.out _ _ (e_8 (e_4 (e_2 (e_1 ⟨rfl,rfl,{ H with h6:=fun _=>rfl }⟩)))))
        ·obtain rfl:=H.h6 (by simp[hi]);obtain⟨hv,hcp⟩:=H.h5 (by simp[hi]) (by simp[hi]);subst hv;obtain⟨-,-,hc3,hf3⟩:=HC1.out _ hcp;have HCP:=hid hcp;clear hcp;refine wpOp_hidden rfl fun K hK=>?_;go_wp2;refine OnlyN.mk (hK.out _ _ (e_8 (e_4 (e_2 (e_1 ⟨rfl,rfl,{ H with wa:=fun h=>absurd h (by simp[hi]),h5:=fun _ h=>(by cases h),hord:=fun _=>⟨(by simp[hi]),(by simp[hi]),(by simp[hi])⟩,h7:=fun _=>⟨_,HCP.out,rfl⟩ }⟩)))))
       ·rintro listed act w' hr ⟨b0,b1,b2,b3,b4,b5,b6,b7,v43,v44,v45,v46,v47,v48,v49,rfl,rfl,H⟩;have hn:=List.eq_nil_iff_forall_not_mem.1 hr;have r0:=hn 0;simp[mem_ready,Region.binds] at r0;subst r0;have r1:=hn 1;simp[mem_ready,Region.binds] at r1;subst r1;have r2:=hn 2;simp[mem_ready,Region.binds] at r2;subst r2;have r3:=hn 3;simp[mem_ready,Region.binds] at r3;subst r3;have r4:=hn 4;simp[mem_ready,Region.binds] at r4;subst r4;have r5:=hn 5;simp[mem_ready,Region.binds] at r5;subst r5;have r6:=hn 6;simp[mem_ready,Region.binds] at r6;subst r6;have r7:=hn 7;simp[mem_ready,Region.binds] at r7;subst r7;dsimp only;obtain⟨w5,hcp,hw5⟩:=H.h7 rfl;obtain⟨ov2,os2,hL2⟩:=HC2.out _ hcp;rw[← hw5] at hL2;have HL2:=hid hL2;clear H hr hn hcp hw5 hL2;go_wp2;go_roundw
        case rel=>exact⟨m+1,ov2,os2,hlt,(by rw[hw1];rfl),HL2.out⟩
        case measure=>rw[hw1];simp[intOf];omega

      ·have d1:decide (1 < lv)=false:=decide_eq_false hl1;have HL2:=hid (HL.out.low hl1 hlt);obtain⟨z,hz⟩:∃ z,z=zs[m]:=⟨_,rfl⟩
       rw[← hz] at hcm;clear hl1 hz;go_wp2;go_roundw
       case rel=>exact⟨m+1,ov1,os1,hlt,(by rw[hw1];rfl),HL2.out⟩
       case measure=>rw[hw1];simp[intOf];omega
     ·obtain rfl:m=zs.length:=by omega
      have hle:=HL.out.len;have hacc:OwnIA wr B (.slice (some ⟨gx,0,none⟩) zs.length cx) (kidsTo (hs.map Hd.nd) f lv zs s zs.length).2:=by
       have:=HL.out.R;rw[List.drop_length,List.append_nil] at this;exact this.down HBW.out
      obtain⟨acc,hac⟩:∃ acc,acc=(kidsTo (hs.map Hd.nd) f lv zs s zs.length).2:=⟨_,rfl⟩
      rw[← hac] at hacc hle;have HAC:=hid hac;have hnz:Hid (zs.length=acc.length):=hid hle.symm;have hown:=HL.out.wk.out;have hos:os1.length < 1000000000000:=by
       have h1:=HL.out.iv.le;rw[← HL.out.wk.eq,List.length_map,List.length_map] at h1;have:=HLN.out;omega
      have hbs:B≤wr.heap.size:=Nat.le_trans HBW.out HL.out.kp.below.size;have hcX0:=HL.out.G.cell_ 0 (.int .i64 lv) rfl;have hcX1:=HL.out.G.cell_ 1 (.slice (some ⟨gx,0,none⟩) zs.length cx) rfl;have hcO:=HL.out.wk.bo.cell_ 0 ov1 rfl;clear hac hle hm hlt;go_wp2_with (at_builtin;refine wpList_pushNn rfl _ _ _ rfl B 58 3 (by decide) Tryz.underlying29 Tryz.infoNode _ _ rfl hown _ _ _ _ _ hnz hacc rfl hos hbs ?_);intro v6 w6 hN6 hK6 hM6;obtain⟨A6,c6,hv6,-,-⟩:=hN6.nds;rw[List.length_append,List.length_singleton] at hv6;have hfin:=HL.out.fin HND.out (by have h:=HD0.out;omega) HBW.out rfl HAC.out hN6 hK6 hM6;have b4:=hK6.blk HL.out.wk.bo (own_blk_ne' HL.out.wk.out.1 HL.out.wk.bo (by decide));have b1:=hK6.blk HL.out.wk.bd (own_blk_ne' HL.out.wk.out.1 HL.out.wk.bd (by decide));have b5:=hK6.own (u:=.slice (some ⟨gd,0,none⟩) (kidsTo (hs.map Hd.nd) f lv zs s zs.length).1.1.length cap) HL.out.wk.row (fun g e=>by injection e with e;subst e;exact fun e=>own_ne HL.out.wk.row HL.out.wk.out.1 (by decide) rfl e);have hsl1:(kidsTo (hs.map Hd.nd) f lv zs s zs.length).1.1.length=hs.length:=by rw[HL.out.iv.len,List.length_map]
      obtain⟨w7,hw7⟩:∃ w7,w7=w6.setCell ⟨Po,0,none⟩ v6:=⟨_,rfl⟩
      have k7:Kept (fun g=>g=Po) w6 w7:=by rw[hw7];exact (Kept.refl (fun g=>g=Po) w6).setCell (p:=⟨Po,0,none⟩) (Or.inl rfl) v6
      have c1:=k7.blk b1 (fun e=>Blk.ne_ b1 b4 (by decide) e);have c5:=k7.own b5 (fun g e1 e2=>by subst e2;exact own_blk_ne' b5 b4 (by decide) e1);have c4:Blk w7 Po 29 #[v6]:=by rw[hw7];exact b4.set_ 0 v6
      obtain⟨hk1,hk2⟩:=OwnI.cellk (I:=3) c5 (k:=k) (by rw[hsl1];exact HKL.out);have hcPo6:=b4.cell_ 0 ov1 rfl;have hfPo6:=b4.frozen 0;rw[hsl1] at c1;have hcPd7:=c1.cell_ 0 (.slice (some ⟨gd,0,none⟩) hs.length cap) rfl;have hcPo7:=c4.cell_ 0 v6 rfl;have hgPo:gd≠Po:=fun e=>by
       subst e;exact own_blk_ne' c5 c4 (by decide) rfl
      have hcPo8:(w7.setCell ⟨gd,k,none⟩ (.int .i64 ((os1.length:Int)+1))).cell? ⟨Po,0,none⟩=some v6:=(c4.far (p:=⟨gd,k,none⟩) (fun e=>hgPo e.symm) _).cell_ 0 v6 rfl;rw[← hw7] at hfin;have HFIN:=hid hfin;have HV6:=hid hv6;have HW7:=hid hw7;have HOS:=hid hos;have hwr:wrap64 (((os1.length+1:Nat):Int) - 1)=os1.length:=by unfold wrap64;omega
      have hwr2:wrap64 (os1.length:Int)=os1.length:=by unfold wrap64;omega
      have HRET:Hid ((dfs (hs.map Hd.nd) (f+1) k s).1.getD k 0 - 1=(os1.length:Int)):=hid (by
       rw[dfs_all HND.out (by have h:=HD0.out;omega)];dsimp only;rw[getD_set (by rw[hsl1];exact HKL.out),if_pos rfl];have h:os1.length=(kidsTo (hs.map Hd.nd) f lv zs s zs.length).1.2.length:=by rw[← HL.out.wk.eq,List.length_map]
       omega)
      rw[hv6] at hcPo7 hcPo8;clear hfin hN6 hK6 hM6 b1 b4 b5 k7 c1 c4 c5 hgPo hsl1 hacc hown hnz hcX0 hcX1 hcO hos;clear hw7;subst hv6;go_upto_region 11 with fail
      rw[← HW7.out];have hkl:=HKL.out;go_wp2;go_ret;exact⟨_,_,by rw[HRET.out] <;> rfl,HFIN.out⟩

end Go.Proofs.YtlegfdllipkggaaGreatDoor
