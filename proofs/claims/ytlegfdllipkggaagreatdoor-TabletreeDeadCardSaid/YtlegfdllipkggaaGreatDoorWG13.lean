/-
  texts BldM BldrM: parts of the proof; conditions stand with each theorem.
-/
import Derived.Test.YtlegfdllipkggaaGreatDoorWG6
import Derived.Test.YtlegfdllipkggaaGreatDoorWWalk
import Derived.Test.YtlegfdllipkggaaGreatDoorWG2
import Derived.DeepKeys5
import Derived.Test.YtlegfdllipkggaaGreatDoorWG12
namespace Go.Proofs.YtlegfdllipkggaaGreatDoor
open Go.RowKit Go.Maps
set_option maxRecDepth 100000
set_option linter.unusedVariables false
set_option linter.unusedSimpArgs false

theorem Kept.overB {S T:Nat→Prop}{W wr w:World}(h1:Kept S W wr)(h2:Kept T wr w)(ht:∀ g,T g→W.heap.size≤g):Kept S W w:=
 ⟨h1.below.trans h2.below,fun g hg hs=>(h2.block g (Nat.lt_of_lt_of_le hg h1.below.size) (fun t=>by have:=ht g t;omega)).trans (h1.block g hg hs)⟩
def U8 (w:World)(g:Nat):Prop:=∃ c fz,w.heap[g]?=some (.cells c 5 fz)
section
variable {w w' : World}
theorem u8_own {base e n m:Nat}{u:Value}{xs:List Value}(h:w.ownsRow base e n u m xs)(he:e≠5):∀ g,u.ownBlock=some g→¬ U8 w g:=fun g hg ⟨c,fz,hc⟩=>by
 rcases h.2 with ⟨rfl,_⟩ | ⟨g',cap,cur,rfl,-,h5,-⟩
 ·simp[Value.ownBlock] at hg
 ·simp[Value.ownBlock] at hg;subst hg;rw[h5] at hc;injection hc with hc
  injection hc with _ hc
  exact he hc
theorem u8_blk {g:Nat}{T:TypeId}{cs:Array Value}(h:Blk w g T cs)(hT:T≠5):¬ U8 w g:=fun ⟨c,fz,hc⟩=>by
 unfold Blk at h;rw[h] at hc;injection hc with hc
 injection hc with _ hc
 exact hT hc
theorem kept_u8 {B:Nat}(hb:Below B w w')(ho:Lib.OthersKept 5 none w w'):Kept (U8 w) w w':=by
 refine⟨⟨hb.os,hb.tape,hb.output,hb.size,fun k hk=>absurd hk (by omega)⟩,fun g hg hs=>?_⟩;obtain⟨o,ho'⟩:∃ o,w.heap[g]?=some o:=⟨w.heap[g],Array.getElem?_eq_getElem hg⟩
 rw[ho'];exact ho g o ho' (by simp) (fun c fz e=>hs ⟨c,fz,by rw[ho',e]⟩)
theorem own_u8 {B:Nat}{v:Value}{l:List UInt8}(h:OwnB w B v l){g:Nat}(hg:v.ownBlock=some g):U8 w g:=by
 rcases h.2 with ⟨rfl,_⟩ | ⟨g',cap,cur,rfl,-,h5,-⟩
 ·simp[Value.ownBlock] at hg
 ·simp[Value.ownBlock] at hg;subst hg;exact⟨cur,_,h5⟩
end
theorem wpList_pushBk {wr:World}{ops:Array Oper}{rest:List Oper}{o:Oper}{a:Act}{Q:Exit→Act→World→Prop}(hgd:o.guard=none)(s x:Operand)
  (ho:o.op=.call { callee:=.builtin .append,args:=#[s,x],argTypes:=#[95,95] })
  (base:Nat) (v:Value) (l:List UInt8) (hs:a.eval s=v) (hown:OwnB wr base v l)
  (c:UInt8) (z:Int) (hz:z=(c.toNat:Int)) (hx:a.eval x=.slice (some ⟨wr.heap.size,0,none⟩) 1 1)
  (hn:l.length < 1000000000000) (hbase:base≤wr.heap.size)
  (h:∀ v' w',OwnB w' base v' (l ++ [c])→Kept (U8 wr) wr w'→Below base wr w'→wpList Tryz.prog ops Q rest (a.put o.dst v') w') :
  wpList Tryz.prog ops Q (o :: rest) a (wr.alloc (.cells #[.int .u8 z] 5)):=by
 subst hz;obtain⟨i0,hi0,hz0,hz1,hz2⟩:=info_parts Tryz.infoByte;refine wpList_append_own_at _ hgd s x _ ho base 5 i0 _ 1 1 Tryz.underlying95 hi0 hz0 hz1 hz2 rfl (by decide) v l.length (Lib.byteCells l) hs (World.ownsRow.alloc hown _) ⟨wr.heap.size,0,none⟩ 1 1 [.int .u8 c.toNat] hx rfl ?_ (by simp[Value.oneCell']) (by unfold maxLen;omega) (by omega) (by simp;omega) ?_
 ·intro j u hu;rw[addr_add];have:(wr.alloc (.cells #[.int .u8 c.toNat] 5)).cell? ⟨wr.heap.size,0+j,none⟩=(#[.int .u8 c.toNat]:Array Value)[0+j]?:=cell_of_row _ _ _ _ _ _ (heap_alloc_new wr _);rw[this];simpa using hu
 ·intro v' w' hown' hg _ _;refine h v' w' (by unfold OwnB Lib.byteCells;rw[List.length_append,List.map_append];exact hown') ?_ ?_
  ·exact ((Kept.refl _ wr).alloc _).grown hg fun g hg=>Or.inl (own_u8 hown hg)
  ·exact (((Kept.refl (fun g=>v.ownBlock=some g) wr).alloc _).grown hg fun g hg=>Or.inl hg).to_below hbase fun g hg e=>by have:=(own_lt' hown e).2;omega
theorem appIntK (B:Nat)(l:List UInt8)(i:Int)(v:Value)(w:World)(ho:OwnB w B v l)(hB:B≤w.heap.size)(hl:l.length≤1000000)(h0:-9223372036854775808≤i)(h1:i≤9223372036854775807)(ht:TabB B w) :
  Calls Tryz.prog 68 #[v,.int .i64 i,.int .i64 10] w fun e w'=>∃ v',e=.returned v'∧OwnB w' B v' (l ++ Lib.itoa i)∧Kept (U8 w) w w'∧Below B w w':=by
 refine (Tryz.strconv_AppendInt_10 B l.length i h0 h1 v (Lib.byteCells l) w ho hB (by omega) ht).mono ?_;rintro e w' ⟨v',rfl,h,hb,hk⟩;refine⟨v',rfl,?_,kept_u8 hb hk,hb⟩;unfold OwnB;rw[List.length_append,show Lib.byteCells (l ++ Lib.itoa i)=Lib.byteCells l ++ Lib.byteCells (Lib.itoa i) by simp[Lib.byteCells]];exact h
structure TbM (B p M:Nat)(st:Int)(hA:Option Addr)(hn hc:Nat)(fv ov:Value)(os:List Hd)(D:DataW Unit)(iv:Value)(ins:List Int)(w:World):Prop where
 blk:Blk w p 78 #[.int .i64 st,.slice hA hn hc,ov,.map (some M),iv,fv]
 out:OwnNA w B ov os
 mp:MapA w M os.length D
 kn:Known D (os.map Hd.nd)
 ir:OwnIA w B iv ins
 ap:∀ x ∈ os,∀ g,x.val.ownBlock=some g→iv.ownBlock≠some g
 lo:B≤p∧B≤M
def TbS (p M:Nat)(ov iv:Value):Nat→Prop:=fun g=>g=p∨g=M∨ov.ownBlock=some g∨iv.ownBlock=some g
structure TbV (p M:Nat)(ov iv:Value)(os:List Hd)(W:World)(ov' iv':Value)(os':List Hd)(w:World):Prop where
 kp:Kept (TbS p M ov iv) W w
 mo:∀ g,ov'.ownBlock=some g→ov.ownBlock=some g∨W.heap.size≤g
 mi:∀ g,iv'.ownBlock=some g→iv.ownBlock=some g∨W.heap.size≤g
 new:∀ x ∈ os',x ∈ os∨∀ g,x.val.ownBlock=some g→W.heap.size≤g
section
variable {B p M : Nat} {st : Int} {hA : Option Addr} {hn hc : Nat} {fv ov ov1 ov2 : Value} {os os1 os2 : List Hd} {D D' : DataW Unit} {iv iv1 iv2 : Value} {ins ins' : List Int} {w w1 w2 w6 w8 w9 W : World}
theorem TbV.of_new (h:Below W.heap.size W w):TbV p M ov iv os W ov iv os w:=⟨Kept.of_new _ h,fun g h=>.inl h,fun g h=>.inl h,fun x h=>.inl h⟩
theorem TbV.trans (h:TbV p M ov iv os W ov1 iv1 os1 w1)(k:TbV p M ov1 iv1 os1 w1 ov2 iv2 os2 w2):TbV p M ov iv os W ov2 iv2 os2 w2:=by
 have hs:=h.kp.below.size;refine⟨⟨h.kp.below.trans k.kp.below,fun g hg hn=>(k.kp.block g (Nat.lt_of_lt_of_le hg hs) fun h2=>?_).trans (h.kp.block g hg hn)⟩,fun g e=>?_,fun g e=>?_,fun x hx=>?_⟩
 ·rcases h2 with h2 | h2 | h2 | h2
  ·exact hn (.inl h2)
  ·exact hn (.inr (.inl h2))
  ·rcases h.mo g h2 with h3 | h3
   ·exact hn (.inr (.inr (.inl h3)))
   ·omega
  ·rcases h.mi g h2 with h3 | h3
   ·exact hn (.inr (.inr (.inr h3)))
   ·omega
 ·rcases k.mo g e with h3 | h3
  ·exact h.mo g h3
  ·exact .inr (by omega)
 ·rcases k.mi g e with h3 | h3
  ·exact h.mi g h3
  ·exact .inr (by omega)
 ·rcases k.new x hx with h3 | h3
  ·exact h.new x h3
  ·exact .inr fun g e=>Nat.le_trans hs (h3 g e)
theorem TbM.kept (h:TbM B p M st hA hn hc fv ov os D iv ins w){T:Nat→Prop}(hk:Kept T w w1)(h1:¬ T p)(h2:¬ T M)(h3:∀ g,ov.ownBlock=some g→¬ T g)(h4:∀ x ∈ os,∀ g,x.val.ownBlock=some g→¬ T g)(h5:∀ g,iv.ownBlock=some g→¬ T g):TbM B p M st hA hn hc fv ov os D iv ins w1:=
 ⟨hk.blk h.blk h1,h.out.kept hk h3 h4,hk.map h.mp h2,h.kn,hk.own h.ir h5,h.ap,h.lo⟩
theorem TbM.ext (h:TbM B p M st hA hn hc fv ov os D iv ins w)(hb:Below w.heap.size w w1):TbM B p M st hA hn hc fv ov os D iv ins w1:=
 h.kept (Kept.of_new (fun _=>False) hb) (fun h=>h) (fun h=>h) (fun _ _ h=>h) (fun _ _ _ _ h=>h) (fun _ _ h=>h)
theorem TbM.pM (h:TbM B p M st hA hn hc fv ov os D iv ins w):p≠M:=blk_map_ne h.blk h.mp
theorem TbM.lt (h:TbM B p M st hA hn hc fv ov os D iv ins w):p < w.heap.size∧M < w.heap.size:=⟨h.blk.lt,h.mp.lt⟩
theorem TbM.below (h:TbM B p M st hA hn hc fv ov os D iv ins W)(hv:TbV p M ov iv os W ov1 iv1 os1 w):Below B W w:=by
 refine hv.kp.to_below (Nat.le_trans h.lo.1 (Nat.le_of_lt h.blk.lt)) fun g hg e=>?_;rcases e with e | e | e | e
 ·have:=h.lo;omega
 ·have:=h.lo;omega
 ·have:=(own_lt' h.out.1 e).2;omega
 ·have:=(own_lt' h.ir e).2;omega
theorem TbM.pushI (h:TbM B p M st hA hn hc fv ov os D iv ins w){z:Int}{iv':Value}(ho:OwnIA w1 B iv' (ins ++ [z]))(hk:Kept (fun g=>iv.ownBlock=some g) w w1)(hm:iv'.ownBlock=iv.ownBlock∨∃ g,iv'.ownBlock=some g∧w.heap.size≤g) :
  TbM B p M st hA hn hc fv ov os D iv' (ins ++ [z]) (w1.setCell ⟨p,4,none⟩ iv')∧TbV p M ov iv os w ov iv' os (w1.setCell ⟨p,4,none⟩ iv')∧Blk w1 p 78 #[.int .i64 st,.slice hA hn hc,ov,.map (some M),iv,fv]:=by
 have b1:=hk.blk h.blk (own_blk_ne' h.ir h.blk (by decide));have o1:=h.out.kept hk (fun g e1 e2=>own_ne h.ir h.out.1 (by decide) e2 e1) (fun x hx g e1 e2=>h.ap x hx g e1 e2);have m1:=hk.map h.mp (own_map_ne h.ir h.mp);have k7:Kept (fun g=>g=p) w1 (w1.setCell ⟨p,4,none⟩ iv'):=(Kept.refl (fun g=>g=p) w1).setCell (p:=⟨p,4,none⟩) (Or.inl rfl) iv';refine⟨⟨b1.set_ 4 iv',o1.kept k7 (fun g e1 e2=>by subst e2;exact own_blk_ne' o1.1 b1 (by decide) e1) (fun x hx g e1 e2=>by subst e2;exact own_blk_ne' (o1.2 x hx) b1 (by decide) e1),k7.map m1 (fun e=>h.pM e.symm),h.kn,k7.own ho (fun g e1 e2=>by subst e2;exact own_blk_ne' ho b1 (by decide) e1),fun x hx g e1 e2=>?_,h.lo⟩,
  ⟨(hk.mono fun g _ e=>.inr (.inr (.inr e))).setCell (p:=⟨p,4,none⟩) (.inl (.inl rfl)) iv',fun g e=>.inl e,fun g e=>?_,fun x hx=>.inl hx⟩,b1⟩
 ·rcases hm with hm | ⟨g',hg,hs⟩
  ·exact h.ap x hx g e1 (by rw[← hm];exact e2)
  ·rw[hg] at e2;injection e2 with e2
   have:=(own_lt' (h.out.2 x hx) e1).1;omega
 ·rcases hm with hm | ⟨g',hg,hs⟩
  ·exact .inl (by rw[← hm];exact e)
  ·rw[hg] at e;injection e with e
   exact .inr (by omega)
theorem TbM.cutI {g n c:Nat}(h:TbM B p M st hA hn hc fv ov os D (.slice (some ⟨g,0,none⟩) n c) ins w)(hl:n=ins.length){m:Nat}(hm:m≤n) :
  TbM B p M st hA hn hc fv ov os D (.slice (some ⟨g,0,none⟩) m c) (ins.take m) (w.setCell ⟨p,4,none⟩ (.slice (some ⟨g,0,none⟩) m c))∧TbV p M ov (.slice (some ⟨g,0,none⟩) n c) os w ov (.slice (some ⟨g,0,none⟩) m c) os (w.setCell ⟨p,4,none⟩ (.slice (some ⟨g,0,none⟩) m c)):=by
 have ho:=OwnI.cut h.ir hl hm;have k7:Kept (fun g=>g=p) w (w.setCell ⟨p,4,none⟩ (.slice (some ⟨g,0,none⟩) m c)):=(Kept.refl (fun g=>g=p) w).setCell (p:=⟨p,4,none⟩) (Or.inl rfl) _;refine⟨⟨h.blk.set_ 4 _,h.out.kept k7 (fun g e1 e2=>by subst e2;exact own_blk_ne' h.out.1 h.blk (by decide) e1) (fun x hx g e1 e2=>by subst e2;exact own_blk_ne' (h.out.2 x hx) h.blk (by decide) e1),k7.map h.mp (fun e=>h.pM e.symm),h.kn,k7.own ho (fun g e1 e2=>by subst e2;exact own_blk_ne' ho h.blk (by decide) e1),h.ap,h.lo⟩,
  ⟨k7.mono fun g _ e=>.inl e,fun g e=>.inl e,fun g e=>.inl e,fun x hx=>.inl hx⟩⟩
theorem TbM.mapped (h:TbM B p M st hA hn hc fv ov os D iv ins w)(hg:w.grownBy w8 (some M)):Kept (fun g=>g=M) w w8∧Blk w8 p 78 #[.int .i64 st,.slice hA hn hc,ov,.map (some M),iv,fv]∧OwnNA w8 B ov os∧OwnIA w8 B iv ins:=by
 have k8:Kept (fun g=>g=M) w w8:=(Kept.refl _ w).grown hg fun g e=>by injection e with e;exact .inl e.symm
 exact⟨k8,k8.blk h.blk h.pM,h.out.kept k8 (fun g e1 e2=>by subst e2;exact own_map_ne h.out.1 h.mp e1) (fun x hx g e1 e2=>by subst e2;exact own_map_ne (h.out.2 x hx) h.mp e1),k8.own h.ir (fun g e1 e2=>by subst e2;exact own_map_ne h.ir h.mp e1)⟩
theorem TbM.node (h:TbM B p M st hA hn hc fv ov os D iv ins w){ov0 iv0:Value}{os0:List Hd}(hv:TbV p M ov0 iv0 os0 W ov iv os w)(hg:w.grownBy w8 (some M))(hM:MapA w8 M (os.length+1) D'){x:Hd}(hkn:Known D' (os.map Hd.nd ++ [x.nd])){v9:Value}
  (hN:OwnNA w9 B v9 (os ++ [x])) (hk:Kept (fun g=>ov.ownBlock=some g) w8 w9) (hm:v9.ownBlock=ov.ownBlock∨∃ g,v9.ownBlock=some g∧w8.heap.size≤g) (hx:∀ g,x.val.ownBlock=some g→W.heap.size≤g∧iv.ownBlock≠some g) :
  TbM B p M st hA hn hc fv v9 (os ++ [x]) D' iv ins (w9.setCell ⟨p,2,none⟩ v9)∧TbV p M ov0 iv0 os0 W v9 iv (os ++ [x]) (w9.setCell ⟨p,2,none⟩ v9)∧Blk w9 p 78 #[.int .i64 st,.slice hA hn hc,ov,.map (some M),iv,fv]:=by
 obtain⟨k8,b8,o8,i8⟩:=h.mapped hg;have b9:=hk.blk b8 (own_blk_ne' o8.1 b8 (by decide));have m9:=hk.map hM (own_map_ne o8.1 hM);have i9:=hk.own i8 (fun g e1 e2=>own_ne i8 o8.1 (by decide) e1 e2);have k7:Kept (fun g=>g=p) w9 (w9.setCell ⟨p,2,none⟩ v9):=(Kept.refl (fun g=>g=p) w9).setCell (p:=⟨p,2,none⟩) (Or.inl rfl) v9;have K:Kept (TbS p M ov iv) w (w9.setCell ⟨p,2,none⟩ v9):=((k8.mono fun g _ e=>.inr (.inl e)).trans (hk.mono fun g _ e=>.inr (.inr (.inl e)))).setCell (p:=⟨p,2,none⟩) (.inl (.inl rfl)) v9;refine⟨⟨b9.set_ 2 v9,hN.kept k7 (fun g e1 e2=>by subst e2;exact own_blk_ne' hN.1 b9 (by decide) e1) (fun y hy g e1 e2=>by subst e2;exact own_blk_ne' (hN.2 y hy) b9 (by decide) e1),?_,by rw[List.map_append];exact hkn,k7.own i9 (fun g e1 e2=>by subst e2;exact own_blk_ne' i9 b9 (by decide) e1),fun y hy g e1=>?_,h.lo⟩,?_,b9⟩
 ·rw[List.length_append];exact k7.map m9 (fun e=>h.pM e.symm)
 ·rcases List.mem_append.1 hy with hy | hy
  ·exact h.ap y hy g e1
  ·rw[List.mem_singleton.1 hy] at e1;exact (hx g e1).2
 ·have hv2:TbV p M ov iv os w v9 iv os (w9.setCell ⟨p,2,none⟩ v9):=⟨K,fun g e=>by
   rcases hm with hm | ⟨g',hg',hs⟩
   ·exact .inl (by rw[← hm];exact e)
   ·rw[hg'] at e;injection e with e
    exact .inr (by have:=k8.below.size;omega),fun g e=>.inl e,fun y hy=>.inl hy⟩
  have t:=hv.trans hv2;refine⟨t.kp,t.mo,t.mi,fun y hy=>?_⟩;rcases List.mem_append.1 hy with hy | hy
  ·exact t.new y hy
  ·rw[List.mem_singleton.1 hy];exact .inr fun g e=>(hx g e).1
end
structure TbL (B p M:Nat)(st:Int)(hA:Option Addr)(hn hc:Nat)(fv:Value)(W:World)(ov0 iv0:Value)(os0:List Hd)(gX:Nat)(lv:Int)(acc:List Int)(ka:List UInt8)(ov:Value)(os:List Hd)(D:DataW Unit)(iv:Value)(ins:List Int)(xv kv:Value)(wr:World):Prop where
 tb:TbM B p M st hA hn hc fv ov os D iv ins wr
 mv:TbV p M ov0 iv0 os0 W ov iv os wr
 G:Blk wr gX 58 #[.int .i64 lv,xv]
 R:OwnIA wr W.heap.size xv acc
 K:OwnB wr W.heap.size kv ka
 ne:∀ x ∈ os,∀ g,x.val.ownBlock=some g→xv.ownBlock≠some g
 ni:∀ g,iv.ownBlock=some g→xv.ownBlock≠some g
 neX:ov.ownBlock≠some gX
 hX:W.heap.size≤gX
 lp:p < W.heap.size∧M < W.heap.size
section
variable {B p M : Nat} {st : Int} {hA : Option Addr} {hn hc : Nat} {fv ov ov0 ov1 ov2 : Value} {os os0 os1 os2 : List Hd} {D D' : DataW Unit} {iv iv0 iv1 iv2 : Value} {ins ins' : List Int} {w w1 w2 w6 w8 w9 wr W : World} {gX : Nat} {lv : Int} {acc : List Int} {ka : List UInt8} {xv kv : Value}
theorem TbL.ext (h:TbL B p M st hA hn hc fv W ov0 iv0 os0 gX lv acc ka ov os D iv ins xv kv wr)(hb:Below wr.heap.size wr w):TbL B p M st hA hn hc fv W ov0 iv0 os0 gX lv acc ka ov os D iv ins xv kv w:=
 ⟨h.tb.ext hb,h.mv.trans (TbV.of_new hb),h.G.below hb h.G.lt,h.R.ext hb,h.K.ext hb,h.ne,h.ni,h.neX,h.hX,h.lp⟩
theorem TbL.start (h:TbM B p M st hA hn hc fv ov os D iv ins W)(hb:Below W.heap.size W w)(hG:Blk w gX 58 #[.int .i64 lv,.slice none 0 0])(hK:OwnB w W.heap.size kv ka)(hX:W.heap.size≤gX) :
  TbL B p M st hA hn hc fv W ov iv os gX lv [] ka ov os D iv ins (.slice none 0 0) kv w:=
 ⟨h.ext hb,TbV.of_new hb,hG,OwnI.nil _ _ _,hK,fun x hx g e=>by simp[Value.ownBlock],fun g e=>by simp[Value.ownBlock],fun he=>by have:=(own_lt' h.out.1 he).1;omega,hX,h.lt⟩
theorem TbL.far (h:TbL B p M st hA hn hc fv W ov0 iv0 os0 gX lv acc ka ov os D iv ins xv kv wr):(∀ g,xv.ownBlock=some g→¬ TbS p M ov iv g)∧(∀ g,kv.ownBlock=some g→¬ TbS p M ov iv g)∧¬ TbS p M ov iv gX:=by
 have hp:=h.lp;have hX:=h.hX;refine⟨fun g e=>?_,fun g e=>?_,?_⟩
 ·have:=(own_lt' h.R e).2;rintro (e2 | e2 | e2 | e2)
  ·omega
  ·omega
  ·exact own_ne h.R h.tb.out.1 (by decide) e e2
  ·exact h.ni g e2 e
 ·have:=(own_lt' h.K e).2;rintro (e2 | e2 | e2 | e2)
  ·omega
  ·omega
  ·exact own_ne h.K h.tb.out.1 (by decide) e e2
  ·exact own_ne h.K h.tb.ir (by decide) e e2
 ·rintro (e2 | e2 | e2 | e2)
  ·omega
  ·omega
  ·exact h.neX e2
  ·exact own_blk_ne' h.tb.ir h.G (by decide) e2
theorem TbL.turn (h:TbL B p M st hA hn hc fv W ov0 iv0 os0 gX lv acc ka ov os D iv ins xv kv wr)(ht:TbM B p M st hA hn hc fv ov1 os1 D' iv1 ins' w)(hv:TbV p M ov iv os wr ov1 iv1 os1 w):TbL B p M st hA hn hc fv W ov0 iv0 os0 gX lv acc ka ov1 os1 D' iv1 ins' xv kv w:=by
 obtain⟨f1,f2,f3⟩:=h.far;refine⟨ht,h.mv.trans hv,hv.kp.blk h.G f3,hv.kp.own h.R f1,hv.kp.own h.K f2,fun x hx g e=>?_,fun g e=>?_,fun e=>?_,h.hX,h.lp⟩
 ·rcases hv.new x hx with hx | hx
  ·exact h.ne x hx g e
  ·intro e2;have:=(own_lt' h.R e2).1;have:=hx g e;omega
 ·rcases hv.mi g e with e2 | e2
  ·exact h.ni g e2
  ·intro e3;have:=(own_lt' h.R e3).1;omega
 ·rcases hv.mo _ e with e2 | e2
  ·exact h.neX e2
  ·have:=h.G.lt;omega
theorem TbL.push (h:TbL B p M st hA hn hc fv W ov0 iv0 os0 gX lv acc ka ov os D iv ins xv kv wr){z:Int}{xv':Value}(ho:OwnIA w6 W.heap.size xv' (acc ++ [z]))(hk:Kept (fun g=>xv.ownBlock=some g) wr w6)(hm:xv'.ownBlock=xv.ownBlock∨∃ g,xv'.ownBlock=some g∧wr.heap.size≤g) :
  TbL B p M st hA hn hc fv W ov0 iv0 os0 gX lv (acc ++ [z]) ka ov os D iv ins xv' kv (w6.setCell ⟨gX,1,none⟩ xv')∧Blk w6 gX 58 #[.int .i64 lv,xv]:=by
 obtain⟨f1,f2,f3⟩:=h.far;have hX:=h.hX;have hp:=h.lp;have k7:Kept (fun g=>g=gX) w6 (w6.setCell ⟨gX,1,none⟩ xv'):=(Kept.refl (fun g=>g=gX) w6).setCell (p:=⟨gX,1,none⟩) (Or.inl rfl) xv';have g6:=hk.blk h.G (own_blk_ne' h.R h.G (by decide));have t6:=h.tb.kept hk (fun e=>f1 _ e (.inl rfl)) (fun e=>f1 _ e (.inr (.inl rfl))) (fun g e e2=>f1 g e2 (.inr (.inr (.inl e)))) (fun x hx g e e2=>h.ne x hx g e e2) (fun g e e2=>h.ni g e e2);have c6:OwnB w6 W.heap.size kv ka:=hk.own h.K (fun g e1 e2=>own_ne h.R h.K (by decide) e2 e1);have hlt:=h.tb.lt;refine⟨⟨t6.kept k7 (by omega) (by omega) (fun g e e2=>by subst e2;exact h.neX e) (fun x hx g e e2=>by subst e2;exact own_blk_ne' (t6.out.2 x hx) g6 (by decide) e) (fun g e e2=>by subst e2;exact own_blk_ne' t6.ir g6 (by decide) e),
  ⟨?_,h.mv.mo,h.mv.mi,h.mv.new⟩,g6.set_ 1 xv',k7.own ho (fun g e1 e2=>by subst e2;exact own_blk_ne' ho g6 (by decide) e1),k7.own c6 (fun g e1 e2=>by subst e2;exact own_blk_ne' c6 g6 (by decide) e1),fun x hx g e1 e2=>?_,fun g e1 e2=>?_,h.neX,h.hX,h.lp⟩,g6⟩
 ·exact (h.mv.kp.overB hk (fun g e=>(own_lt' h.R e).2)).overB k7 (fun g e=>by rw[e];exact hX)
 ·rcases hm with hm | ⟨g',hg,hs⟩
  ·rw[hm] at e2;exact h.ne x hx g e1 e2
  ·rw[hg] at e2;injection e2 with e2
   have:=(own_lt' (h.tb.out.2 x hx) e1).1;omega
 ·rcases hm with hm | ⟨g',hg,hs⟩
  ·rw[hm] at e2;exact h.ni g e1 e2
  ·rw[hg] at e2;injection e2 with e2
   have:=(own_lt' h.tb.ir e1).1;omega
theorem TbL.key (h:TbL B p M st hA hn hc fv W ov0 iv0 os0 gX lv acc ka ov os D iv ins xv kv wr){kv':Value}{ka':List UInt8}(ho:OwnB w W.heap.size kv' ka')(hk:Kept (U8 wr) wr w)(hB:Below W.heap.size wr w) :
  TbL B p M st hA hn hc fv W ov0 iv0 os0 gX lv acc ka' ov os D iv ins xv kv' w:=by
 have hK:Kept (fun g=>U8 wr g∧W.heap.size≤g) wr w:=⟨hk.below,fun g hg hs=>by
  by_cases h1:W.heap.size≤g
  ·exact hk.block g hg (fun e=>hs ⟨e,h1⟩)
  ·exact hB.block g (by omega)⟩
 have hp:=h.lp;refine⟨h.tb.kept hK (fun e=>by have:=e.2;omega) (fun e=>by have:=e.2;omega) (fun g e1 e2=>u8_own h.tb.out.1 (by decide) g e1 e2.1) (fun x hx g e1 e2=>u8_own (h.tb.out.2 x hx) (by decide) g e1 e2.1) (fun g e1 e2=>u8_own h.tb.ir (by decide) g e1 e2.1),
  ⟨h.mv.kp.overB hK (fun g e=>e.2),h.mv.mo,h.mv.mi,h.mv.new⟩,hK.blk h.G (fun e=>u8_blk h.G (by decide) e.1),hK.own h.R (fun g e1 e2=>u8_own h.R (by decide) g e1 e2.1),ho,h.ne,h.ni,h.neX,h.hX,h.lp⟩
end
end Go.Proofs.YtlegfdllipkggaaGreatDoor
