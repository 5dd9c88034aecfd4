/-
  texts Read AwkP Value15: parts of the proof; conditions stand with each theorem.
-/
import Derived.Test.YtlegfdllipkggaaGreatDoorWConst
import Derived.Test.YtlegfdllipkggaaGreatDoorWG17
import Derived.Test.YtlegfdllipkggaaGreatDoorWG16
import Derived.Test.YtlegfdllipkggaaGreatDoorWG15
namespace Go.Proofs.YtlegfdllipkggaaGreatDoor
open Lib(hid)
open Go.RowKit
set_option maxRecDepth 100000
set_option linter.unusedVariables false
set_option linter.unusedSimpArgs false
structure RdV (w:World)(W4 X:Nat)(A:Option Addr)(c:Nat)(B:Option Addr)(d:Nat)(os:List Hd)(wr:World):Prop where
 sz:W4≤wr.heap.size
 bx:Blk wr X 31 #[.int .i64 2,.slice A 3 c,.slice B os.length d]
 br:Blk wr w.heap.size 31 #[.int .i64 0,.slice none 0 0,.slice none 0 0]
 on:OwnNA wr W4 (.slice B os.length d) os
 be:Below w.heap.size w wr
 g:w.heap.size < X∧X < W4
structure RdW (w:World)(W4 X Y:Nat)(A:Option Addr)(c:Nat)(B:Option Addr)(d:Nat)(os:List Hd)(cA:Option Addr)(cc:Nat)(ch:List Int)(wr:World):Prop where
 v:RdV w W4 X A c B d os wr
 by_:Blk wr Y 58 #[.int .i64 2,.slice cA ch.length cc]
 oc:OwnIA wr W4 (.slice cA ch.length cc) ch
 ns:∀ x ∈ os,∀ g,x.val.ownBlock=some g→(Value.slice cA ch.length cc).ownBlock≠some g
 g:X < Y∧Y < W4
section
variable {w wr w' w6 : World} {W4 X Y : Nat} {A B cA : Option Addr} {c d cc : Nat} {os : List Hd} {ch : List Int}
theorem RdV.node {lv:Int}{zs:List Int}(h:RdV w W4 X A c B d os wr)(ha:ApcPost wr W4 os (.slice B os.length d) lv zs X (.int .i64 2) (.slice A 3 c) w') :
  ∃ X9 c9 zA zc,RdV w W4 X A c X9 c9 (os ++ [⟨lv,zA,zc,zs⟩]) w':=by
 obtain⟨X9,c9,zA,zc,h1,h2,h3,h4⟩:=ha;refine⟨X9,c9,zA,zc,Nat.le_trans h.sz h3.below.size,?_,?_,?_,?_,h.g⟩
 ·rw[List.length_append];exact h1
 ·refine h3.blk h.br (fun e=>?_);rcases e with e | e
  ·have:=(own_lt' h.on.1 e).2;have:=h.g;omega
  ·have:=h.g;omega
 ·rw[List.length_append];exact h2
 ·refine h.be.trans (h3.to_below h.be.size (fun g hg e=>?_));rcases e with e | e
  ·have:=(own_lt' h.on.1 e).2;have:=h.g;omega
  ·have:=h.g;omega
theorem RdW.node {lv:Int}{zs:List Int}(h:RdW w W4 X Y A c B d os cA cc ch wr)(ha:ApcPost wr W4 os (.slice B os.length d) lv zs X (.int .i64 2) (.slice A 3 c) w') :
  ∃ X9 c9 zA zc,RdW w W4 X Y A c X9 c9 (os ++ [⟨lv,zA,zc,zs⟩]) cA cc ch w':=by
 have hv:=h.v;obtain⟨X9,c9,zA,zc,h1,h2,h3,h4⟩:=ha;have hfy:∀ g,(Value.slice cA ch.length cc).ownBlock=some g→¬ ((Value.slice B os.length d).ownBlock=some g∨g=X):=fun g e e2=>by
  rcases e2 with e2 | e2
  ·exact own_ne hv.on.1 h.oc (by decide) e2 e
  ·have:=(own_lt' h.oc e).2;have:=hv.g;omega
 refine⟨X9,c9,zA,zc,⟨Nat.le_trans hv.sz h3.below.size,?_,?_,?_,?_,hv.g⟩,?_,?_,?_,h.g⟩
 ·rw[List.length_append];exact h1
 ·refine h3.blk hv.br (fun e=>?_);rcases e with e | e
  ·have:=(own_lt' hv.on.1 e).2;have:=hv.g;omega
  ·have:=hv.g;omega
 ·rw[List.length_append];exact h2
 ·refine hv.be.trans (h3.to_below hv.be.size (fun g hg e=>?_));rcases e with e | e
  ·have:=(own_lt' hv.on.1 e).2;have:=hv.g;omega
  ·have:=hv.g;omega
 ·refine h3.blk h.by_ (fun e=>?_);rcases e with e | e
  ·have:=(own_lt' hv.on.1 e).2;have:=h.g;omega
  ·have:=h.g;omega
 ·exact h3.own h.oc hfy
 ·intro x hx g e e2;rcases List.mem_append.1 hx with hx | hx
  ·exact h.ns x hx g e e2
  ·rw[List.mem_singleton.1 hx] at e;have:=h4 g e;have:=(own_lt' h.oc e2).1;omega
theorem RdW.choose {cA':Option Addr}{cc':Nat}{z:Int}(h:RdW w W4 X Y A c B d os cA cc ch wr)(ho:OwnIA w6 W4 (.slice cA' (ch.length+1) cc') (ch ++ [z]))(hk:Kept (fun g=>(Value.slice cA ch.length cc).ownBlock=some g) wr w6)
  (hm:(Value.slice cA' (ch.length+1) cc').ownBlock=(Value.slice cA ch.length cc).ownBlock∨∃ g,(Value.slice cA' (ch.length+1) cc').ownBlock=some g∧wr.heap.size≤g) :
  Blk w6 Y 58 #[.int .i64 2,.slice cA ch.length cc]∧RdW w W4 X Y A c B d os cA' cc' (ch ++ [z]) (w6.setCell ⟨Y,1,none⟩ (.slice cA' (ch.length+1) cc')):=by
 have hv:=h.v;have hlt:∀ g,g < W4→¬ (Value.slice cA ch.length cc).ownBlock=some g:=fun g hg e=>by have:=(own_lt' h.oc e).2;omega
 have hY:Blk w6 Y 58 #[.int .i64 2,.slice cA ch.length cc]:=hk.blk h.by_ (hlt _ h.g.2);have hk2:Kept (fun g=>g=Y) w6 (w6.setCell ⟨Y,1,none⟩ (.slice cA' (ch.length+1) cc')):=(Kept.refl (fun g=>g=Y) w6).setCell (p:=⟨Y,1,none⟩) (Or.inl rfl) _;have hne:∀ g,W4≤g→¬ g=Y:=fun g hg e=>by have:=h.g;omega
 refine⟨hY,⟨Nat.le_trans hv.sz (Nat.le_trans hk.below.size hk2.below.size),?_,?_,?_,?_,hv.g⟩,?_,?_,?_,h.g⟩
 ·exact hk2.blk (hk.blk hv.bx (hlt _ hv.g.2)) (by have:=h.g;omega)
 ·exact hk2.blk (hk.blk hv.br (hlt _ (by have:=hv.g;omega))) (by have:=h.g;have:=hv.g;omega)
 ·exact (hv.on.kept hk (fun g e1 e2=>own_ne hv.on.1 h.oc (by decide) e1 e2) (fun x hx g e1 e2=>h.ns x hx g e1 e2)).kept hk2 (fun g e=>hne g (own_lt' hv.on.1 e).2) (fun x hx g e=>hne g (own_lt' (hv.on.2 x hx) e).2)
 ·refine (hv.be.trans (hk.to_below hv.be.size (fun g hg=>hlt g (by have:=hv.g;omega)))).trans (hk2.to_below (Nat.le_trans hv.be.size hk.below.size) (fun g hg=>by have:=h.g;have:=hv.g;omega))
 ·rw[List.length_append];exact hY.set_ 1 _
 ·rw[List.length_append];exact hk2.own ho (fun g e=>hne g (own_lt' ho e).2)
 ·intro x hx g e;rw[List.length_append];show (Value.slice cA' (ch.length+1) cc').ownBlock≠some g;intro e2;rcases hm with hm | ⟨g',e3,e4⟩
  ·rw[hm] at e2;exact h.ns x hx g e e2
  ·rw[e2] at e3;injection e3 with e3
   subst e3;have:=(own_lt' (hv.on.2 x hx) e).1;omega
theorem RdW.push {X9:Option Addr}{c9:Nat}(h:RdW w W4 X Y A c B d os cA cc ch wr)(ho:OwnNA w6 W4 (.slice X9 (os.length+1) c9) (os ++ [⟨2,cA,cc,ch⟩]))(hk:Kept (fun g=>(Value.slice B os.length d).ownBlock=some g) wr w6) :
  Blk w6 X 31 #[.int .i64 2,.slice A 3 c,.slice B os.length d]∧RdV w W4 X A c X9 c9 (os ++ [⟨2,cA,cc,ch⟩]) (w6.setCell ⟨X,2,none⟩ (.slice X9 (os.length+1) c9)):=by
 have hv:=h.v;have hlt:∀ g,g < W4→¬ (Value.slice B os.length d).ownBlock=some g:=fun g hg e=>by have:=(own_lt' hv.on.1 e).2;omega
 have hX:Blk w6 X 31 #[.int .i64 2,.slice A 3 c,.slice B os.length d]:=hk.blk hv.bx (hlt _ hv.g.2);have hk2:Kept (fun g=>g=X) w6 (w6.setCell ⟨X,2,none⟩ (.slice X9 (os.length+1) c9)):=(Kept.refl (fun g=>g=X) w6).setCell (p:=⟨X,2,none⟩) (Or.inl rfl) _;have hne:∀ g,W4≤g→¬ g=X:=fun g hg e=>by have:=hv.g;omega
 refine⟨hX,Nat.le_trans hv.sz (Nat.le_trans hk.below.size hk2.below.size),?_,?_,?_,?_,hv.g⟩
 ·rw[List.length_append];exact hX.set_ 2 _
 ·exact hk2.blk (hk.blk hv.br (hlt _ (by have:=hv.g;omega))) (by have:=hv.g;omega)
 ·rw[List.length_append];exact ho.kept hk2 (fun g e=>hne g (own_lt' ho.1 e).2) (fun x hx g e=>hne g (own_lt' (ho.2 x hx) e).2)
 ·refine (hv.be.trans (hk.to_below hv.be.size (fun g hg=>hlt g (by have:=hv.g;omega)))).trans (hk2.to_below (Nat.le_trans hv.be.size hk.below.size) (fun g hg=>by have:=hv.g;omega))
end
structure Read13J (V:World)(bs:Nat)(acc:List Hd)(xv:Value)(lv:Int)(zs:List Int)(T:Nat)(e0:Value)(e1:Value)(kk:Int)(b0 b1 b2 b3 b4 b5 b6 b7 b8 b9:Bool)(v57 v58 v59 v60 v61 v62 v63 v64 v65:Value)(w:World):Prop where
 h0:b0=true→v57=.pointer (some ⟨T,2,none⟩)
 h1:b1=true→v58=xv
 h2:b2=true→v59=.int .i64 lv
 h3:b3=true→v60=.int .i64 2
 h4:b4=true→v61=.int .i64 kk
 h8:b8=true→v65=.pointer (some ⟨T,2,none⟩)
 hk:b7=false→∀ p:Addr,p.block < V.heap.size→w.cell? p=V.cell? p
 wa:b5=false→w=V.drew
 wz:b5=true→b6=false→∃ zA zc,v62=.agg #[.int .i64 lv,.slice zA zs.length zc]∧OwnIA w V.heap.size (.slice zA zs.length zc) zs∧OwnNA w bs xv acc∧Below V.heap.size V w
 wb:b6=true→b7=false→∃ zA zc W0,v63=.slice (some ⟨W0.heap.size,0,none⟩) 1 1∧w=W0.alloc (.cells #[.int .i64 lv,.slice zA zs.length zc] 58)∧OwnIA W0 V.heap.size (.slice zA zs.length zc) zs∧OwnNA W0 bs xv acc∧Below V.heap.size V W0
 wc:b7=true→b9=false→∃ X c zA zc,v64=.slice X (acc.length+1) c∧OwnNA w bs (.slice X (acc.length+1) c) (acc ++ [⟨lv,zA,zc,zs⟩])∧Kept (fun g=>xv.ownBlock=some g) V w∧∀ g,(Value.slice zA zs.length zc).ownBlock=some g→V.heap.size≤g
 wd:b9=true→ApcPost V bs acc xv lv zs T e0 e1 w
 ord2:b9=true→b7=true∧b8=true
 o1:b1=true→b0=true
 o5:b5=true→b2=true∧b3=true∧b4=true
 o6:b6=true→b5=true
 o7:b7=true→b1=true∧b6=true
structure Read20J (V:World)(bs:Nat)(acc:List Hd)(xv:Value)(lv:Int)(zs:List Int)(T:Nat)(e0:Value)(e1:Value)(kk:Int)(b0 b1 b2 b3 b4 b5 b6 b7 b8 b9 b10 b11 b12:Bool)(v90 v91 v92 v93 v94 v95 v96 v97 v98 v99 v100 v101:Value)(w:World):Prop where
 h0:b0=true→v90=.pointer (some ⟨T,2,none⟩)
 h1:b1=true→v91=xv
 h2:b2=true→v92=.int .i64 lv
 h3:b3=true→v93=.int .i64 2
 h4:b4=true→v94=.pointer (some ⟨T,2,none⟩)
 h5:b5=true→v95=xv
 h6:b6=true→v96=.int .i64 (acc.length:Int)
 h7:b7=true→v97=.int .i64 kk
 h11:b11=true→v101=.pointer (some ⟨T,2,none⟩)
 hk:b10=false→∀ p:Addr,p.block < V.heap.size→w.cell? p=V.cell? p
 wa:b8=false→w=V.drew
 wz:b8=true→b9=false→∃ zA zc,v98=.agg #[.int .i64 lv,.slice zA zs.length zc]∧OwnIA w V.heap.size (.slice zA zs.length zc) zs∧OwnNA w bs xv acc∧Below V.heap.size V w
 wb:b9=true→b10=false→∃ zA zc W0,v99=.slice (some ⟨W0.heap.size,0,none⟩) 1 1∧w=W0.alloc (.cells #[.int .i64 lv,.slice zA zs.length zc] 58)∧OwnIA W0 V.heap.size (.slice zA zs.length zc) zs∧OwnNA W0 bs xv acc∧Below V.heap.size V W0
 wc:b10=true→b12=false→∃ X c zA zc,v100=.slice X (acc.length+1) c∧OwnNA w bs (.slice X (acc.length+1) c) (acc ++ [⟨lv,zA,zc,zs⟩])∧Kept (fun g=>xv.ownBlock=some g) V w∧∀ g,(Value.slice zA zs.length zc).ownBlock=some g→V.heap.size≤g
 wd:b12=true→ApcPost V bs acc xv lv zs T e0 e1 w
 ord2:b12=true→b10=true∧b11=true
 o1:b1=true→b0=true
 o5:b5=true→b4=true
 o6:b6=true→b5=true
 o7:b7=true→b6=true
 o8:b8=true→b2=true∧b3=true∧b7=true
 o9:b9=true→b8=true
 o10:b10=true→b1=true∧b9=true
set_option maxHeartbeats 16000000 in
theorem read_line (A:Option Addr)(c:Nat)(w:World)(hp:Pts w A lineL) :
  Calls Tryz.prog 20 #[.int .i64 2,.slice A 3 c,.int .i64 1] w (RetAE (readT,0) w):=by
 have hcr:∀ W,Below w.heap.size w W→Calls Tryz.prog 31 #[.slice A 3 c] W fun e w'=>e=.returned (.bool true)∧Below W.heap.size W w':=fun W hW=>rhood_any A c lineL W (hp.ext hW);obtain⟨w0,hw0⟩:∃ W,W=w.alloc (.cells #[.int .i64 0,.slice none 0 0,.slice none 0 0] 31):=⟨_,rfl⟩
 have hb0:Below w.heap.size w w0:=by rw[hw0];exact below_new _ _
 have hr0:Blk w0 w.heap.size 31 #[.int .i64 0,.slice none 0 0,.slice none 0 0]:=by rw[hw0];exact Blk.new _ _ _
 have HCR:=hid hcr;have HP:=hid hp;have HW0:=hid hw0;have HB0:=hid hb0;have HR0:=hid hr0;clear hp hcr hw0 hb0 hr0;go_enter Tryz.func20,Tryz.ntmps20;go_upto_region 1 with fail
 rw[← HW0.out];go_wp2_with (go_at_call 31;refine (HCR.out _ HB0.out).mono ?_;rintro e w1 ⟨rfl,hb1⟩;refine Hid.out ?_);refine hid ?_;have HB1:=hid hb1;clear hb1;go_upto_region 6 with fail
 obtain⟨X,hX⟩:∃ g,g=w1.heap.size:=⟨_,rfl⟩
 obtain⟨Y,hY⟩:∃ g,g=w1.heap.size+1:=⟨_,rfl⟩
 obtain⟨w4,hw4⟩:∃ W,W=(w1.alloc (.cells #[.int .i64 2,.slice A 3 c,.slice none 0 0] 31)).alloc (.cells #[.int .i64 2,.slice none 0 0] 58):=⟨_,rfl⟩
 have hx4:Blk w4 X 31 #[.int .i64 2,.slice A 3 c,.slice none 0 0]:=by rw[hw4,hX];exact (Blk.new _ _ _).alloc _
 have hy4:Blk w4 Y 58 #[.int .i64 2,.slice none 0 0]:=by rw[hw4,hY];exact blk_two' _ _ _ _
 have hb4:Below w1.heap.size w1 w4:=by rw[hw4];exact (below_new _ _).alloc (by simp) _
 have HRD:Hid (RdW w w4.heap.size X Y A c none 0 [] none 0 [] w4):=hid ⟨⟨Nat.le_refl _,hx4,(HR0.out.below HB1.out HR0.out.lt).below hb4 (Nat.lt_of_lt_of_le HR0.out.lt HB1.out.size),OwnN.nil _ _ _ _,HB0.out.trans ((HB1.out.trans (hb4.mono HB1.out.size)).mono HB0.out.size),⟨by rw[hX];exact Nat.lt_of_lt_of_le HR0.out.lt HB1.out.size,hx4.lt⟩⟩,hy4,OwnI.nil _ _ _,fun x hx=>absurd hx (by simp),⟨by omega,hy4.lt⟩⟩;rw[← hw4,← hY,← hX];clear hx4 hy4 hb4 hX hY hw4 HB1 HR0 HB0 HW0;go_wp2;go_loopw [11] (fun sv wr=>∃ m:Nat,m≤2∧sv=.int .i64 (m:Int)∧∃ B d os cA cc ch,Hid ((os:List Hd).length=m∧os.map Hd.nd=readN.take m)∧Hid ((ch:List Int)=([0,1]:List Int).take m∧ch.length=m)∧Hid (RdW w w4.heap.size X Y A c B d os cA cc ch wr)) (fun sv _=>3 - (intOf sv).toNat)
 case atStart=>exact⟨0,by decide,rfl,none,0,[],none,0,[],hid ⟨rfl,rfl⟩,hid ⟨rfl,rfl⟩,HRD⟩
 case round=>
  obtain⟨m,hm,rfl,B,d,os,cA,cc,ch,HOS,HCH,HD⟩:=hrel;clear HRD;by_cases hm2:m < 2
  ·have HM:=hid hm2;have hd2:decide ((m:Int) < 2)=true:=decide_eq_true (by omega);clear hm hm2;go_wp2;go_loopw [12,13] (fun kv iv wi=>∃ j:Nat,j≤1∧kv=.int .i64 (m:Int)∧iv=.int .i64 ((j:Int)+1)∧∃ B d os,Hid ((os:List Hd).length=m+j∧os.map Hd.nd=readN.take (m+j))∧Hid (RdW w w4.heap.size X Y A c B d os cA cc ch wi)) (fun _ iv _=>3 - (intOf iv).toNat)
   case atStart=>exact⟨0,by decide,rfl,rfl,B,d,os,HOS,HD⟩
   case round=>
    obtain⟨j,hj,rfl,rfl,B2,d2,os2,HOS2,HD2⟩:=hrel;clear HOS HD;by_cases hj1:j < 1
    ·obtain rfl:j=0:=by omega
     obtain⟨lv,hlv⟩:∃ lv:Int,lv=((0:Nat):Int)+1:=⟨_,rfl⟩
     obtain⟨kk,hkk⟩:∃ kk:Int,kk=(m:Int):=⟨_,rfl⟩
     obtain⟨zs,hzs⟩:∃ zs:List Int,zs=[kk,kk]:=⟨_,rfl⟩
     have HCALL:=hid (all_call wr lv kk zs hzs);have HAL:Hid (os2.length < 1000000000000):=hid (by have:=HOS2.out.1;have:=HM.out;omega);have HTB:Hid (X < w4.heap.size):=hid HD2.out.v.g.2;have HTV:=hid HD2.out.v.bx;have HOWN:=hid HD2.out.v.on;have HBS:=hid HD2.out.v.sz;have hd3:decide (lv < 2)=true:=decide_eq_true (by omega);rw[← hlv,← hkk];have HLV:=hid hlv;have HKK:=hid hkk;have HZS:=hid hzs;clear hj hj1 hlv hkk hzs;go_upto_region 13 with fail
     refine wp_region_J (by kernel_rfl) (fun listed act w'=>∃ b0 b1 b2 b3 b4 b5 b6 b7 b8 b9 v57 v58 v59 v60 v61 v62 v63 v64 v65,listed=#[b0,b1,b2,b3,b4,b5,b6,b7,b8,b9]∧act=Act.mk #[.int .i64 2,.slice A 3 c,.int .i64 1,undef,undef,undef,.pointer (some ⟨w.heap.size,0,none⟩),.int .i64 0,.pointer (some ⟨X,0,none⟩),.int .i64 2,.pointer (some ⟨Y,0,none⟩),.int .i64 kk,.int .i64 kk,.int .i64 lv,undef,.int .i64 2,.bool false,.bool false,.int .i64 2,.bool false,.bool false,.bool false,.slice A 3 c,.bool true,.bool false,.bool false,.bool false,.int .i64 1,.bool false,.bool false,.bool false,.int .i64 1,.slice A 3 c,.int .i64 3,.bool false,.bool false,undef,.int .i64 2,.slice A 3 c,.agg #[.int .i64 2,.slice A 3 c,.slice none 0 0],.slice A 3 c,.int .i64 3,.int .i64 1,.int .i64 2,.int .i64 2,.agg #[.int .i64 2,.slice none 0 0],.int .i64 kk,.int .i64 2,.bool true,u49,u50,.int .i64 kk,.int .i64 lv,.int .i64 2,.bool true,u55,u56,v57,v58,v59,v60,v61,v62,v63,v64,v65,u66,u67,u68,u69,u70,u71,u72,u73,u74,u75,undef,undef,undef,undef,undef,undef,undef,undef,undef,undef,undef,undef,undef,undef,undef,undef,undef,undef,undef,undef,undef,undef,undef,undef,undef,undef,undef] []∧Read13J (wr) (w4.heap.size) (os2) (.slice B2 os2.length d2) (lv) (zs) (X) (.int .i64 2) (.slice A 3 c) (kk) b0 b1 b2 b3 b4 b5 b6 b7 b8 b9 v57 v58 v59 v60 v61 v62 v63 v64 v65 w') ?_ ?_ ?_
     ·exact (e_8 (e_8 (e_2 (e_1 ⟨rfl,rfl,(by constructor;(case hk=>exact (fun _ _ _=>rfl));(case wa=>exact (fun _=>rfl));all_goals simp)⟩))))
     ·rintro i listed act w' hi ⟨b0,b1,b2,b3,b4,b5,b6,b7,b8,b9,v57,v58,v59,v60,v61,v62,v63,v64,v65,rfl,rfl,H⟩;have hi16:i < 10:=by
       obtain⟨-,o,ho,-⟩:=mem_ready.1 hi;exact (Array.getElem?_eq_some_iff.1 ho).1
      obtain rfl | rfl | rfl | rfl | rfl | rfl | rfl | rfl | rfl | rfl:i=0∨i=1∨i=2∨i=3∨i=4∨i=5∨i=6∨i=7∨i=8∨i=9:=by omega
      all_goals simp[mem_ready,Region.binds] at hi
      ·refine wpOp_hidden rfl fun K hK=>?_;go_wp2;refine OnlyN.mk (hK.out _ _ (e_8 (e_8 (e_2 (e_1 ⟨rfl,rfl,{ H with h0:=fun _=>rfl,o1:=fun h=>rfl }⟩)))))
      ·have bAf:b7=false:=by
        cases hb:b7 with
        | false=>rfl
        | true=>exact absurd (H.o7 hb).1 (by simp[hi])
       obtain rfl:=H.h0 (by simp[hi]);have cc:=(H.hk bAf ⟨X,2,none⟩ HTV.out.lt).trans (HTV.out.cell_ 2 _ rfl);clear bAf;refine wpOp_hidden rfl fun K hK=>?_;go_wp2;refine OnlyN.mk (hK.out _ _ (e_8 (e_8 (e_2 (e_1 ⟨rfl,rfl,{ H with h1:=fun _=>rfl,o1:=fun _=>(by simp[hi]),o7:=fun h=>⟨rfl,(H.o7 h).2⟩ }⟩)))))
      ·refine wpOp_hidden rfl fun K hK=>?_;go_wp2;refine OnlyN.mk (hK.out _ _ (e_8 (e_8 (e_2 (e_1 ⟨rfl,rfl,{ H with h2:=fun _=>rfl,o5:=fun h=>⟨rfl,(H.o5 h).2.1,(H.o5 h).2.2⟩ }⟩)))))
      ·refine wpOp_hidden rfl fun K hK=>?_;go_wp2;refine OnlyN.mk (hK.out _ _ (e_8 (e_8 (e_2 (e_1 ⟨rfl,rfl,{ H with h3:=fun _=>rfl,o5:=fun h=>⟨(H.o5 h).1,rfl,(H.o5 h).2.2⟩ }⟩)))))
      ·refine wpOp_hidden rfl fun K hK=>?_;go_wp2;refine OnlyN.mk (hK.out _ _ (e_8 (e_8 (e_2 (e_1 ⟨rfl,rfl,{ H with h4:=fun _=>rfl,o5:=fun h=>⟨(H.o5 h).1,(H.o5 h).2.1,rfl⟩ }⟩)))))
      ·have bAf:b7=false:=by
        cases hb:b7 with
        | false=>rfl
        | true=>exact absurd (H.o6 (H.o7 hb).2) (by simp[hi])
       obtain rfl:=H.h2 (by simp[hi]);obtain rfl:=H.h3 (by simp[hi]);obtain rfl:=H.h4 (by simp[hi]);have hw:=H.wa (by simp[hi]);have HAF:=hid bAf;subst hw;clear bAf;have hcall:=HCALL.out (World.drew wr) ((Below.refl _ wr).drew);have HCL:=hid hcall;clear hcall;refine wpOp_hidden rfl fun K hK=>?_;go_wp2_with (go_at_call 39;refine HCL.out.mono ?_;rintro e w6 ⟨zA,zc,rfl,hi6,hb6⟩;refine Hid.out ?_);refine hid ?_;have HB6:Hid (Below (World.heap wr).size wr w6):=hid (((Below.refl _ wr).drew).trans hb6);have HI6:Hid (OwnIA w6 (World.heap wr).size (.slice zA (List.length zs) zc) zs):=hid hi6;have HO6:Hid (OwnNA w6 w4.heap.size (.slice B2 os2.length d2) os2):=hid (OwnN.ext HOWN.out HB6.out);clear hi6 hb6;go_wp2;refine OnlyN.mk (hK.out _ _ (e_8 (e_8 (e_2 (e_1 ⟨rfl,rfl,{ H with hk:=fun _ p hp=>HB6.out.cell hp,wa:=fun h=>(by cases h),wz:=fun _ _=>⟨_,_,rfl,HI6.out,HO6.out,HB6.out⟩,wb:=fun h=>absurd (H.o6 h) (by simp[hi]),wc:=fun h=>absurd h (by rw[HAF.out];decide),wd:=fun h=>absurd (H.ord2 h).1 (by rw[HAF.out];decide),o5:=fun _=>(by simp[hi]),o6:=fun h=>rfl }⟩)))))
      ·have bAf:b7=false:=by
        cases hb:b7 with
        | false=>rfl
        | true=>exact absurd (H.o7 hb).2 (by simp[hi])
       obtain⟨zA,zc,hv,hi6,ho6,hb6⟩:=H.wz (by simp[hi]) (by simp[hi]);subst hv;have HAF:=hid bAf;have HWZ:=hid (And.intro hi6 (And.intro ho6 hb6));have HB6:=hid (hb6.alloc hb6.size (.cells #[.int .i64 lv,.slice zA (List.length zs) zc] 58));clear bAf hi6 ho6 hb6;refine wpOp_hidden rfl fun K hK=>?_;go_wp2;refine OnlyN.mk (hK.out _ _ (e_8 (e_8 (e_2 (e_1 ⟨rfl,rfl,{ H with hk:=fun _ p hp=>HB6.out.cell hp,wa:=fun h=>absurd h (by simp[hi]),wz:=fun _ h=>(by cases h),wb:=fun _ _=>⟨_,_,_,rfl,rfl,HWZ.out⟩,wc:=fun h=>absurd h (by rw[HAF.out];decide),wd:=fun h=>absurd (H.ord2 h).1 (by rw[HAF.out];decide),o6:=fun _=>(by simp[hi]),o7:=fun h=>⟨(H.o7 h).1,rfl⟩ }⟩)))))
      ·obtain rfl:=H.h1 (by simp[hi]);obtain⟨zA,zc,Vd,hv,hw,hI6v,hown,hbd⟩:=H.wb (by simp[hi]) (by simp[hi]);subst hw;subst hv;have HFR:Hid (∀ g,(Value.slice zA (List.length zs) zc).ownBlock=some g→(World.heap wr).size≤g):=hid (fun g e=>(own_lt' hI6v e).2);have hI6:OwnIA Vd w4.heap.size (.slice zA (List.length zs) zc) zs:=own_down hI6v HBS.out;clear hI6v;have hal:=HAL.out;have hws:w4.heap.size≤Vd.heap.size:=Nat.le_trans HBS.out hbd.size;have HVD:Hid (Kept (fun g=>Value.ownBlock (.slice B2 os2.length d2)=some g) wr Vd):=hid (Kept.of_new _ hbd);clear hbd;refine wpOp_hidden rfl fun K hK=>?_;refine wpList_pushN rfl _ _ _ rfl w4.heap.size 58 3 (by decide) Tryz.underlying29 Tryz.infoNode _ _ rfl hown _ _ _ _ hI6 rfl hal hws ?_;intro xv' w6 ho6 hk6 hm6;obtain⟨xA',xc',hxv',-,-⟩:=ho6.nds;rw[List.length_append,List.length_singleton] at hxv';subst hxv';have HO6:=hid ho6;have HK6:Hid (Kept (fun g=>Value.ownBlock (.slice B2 os2.length d2)=some g) wr w6):=hid (HVD.out.trans hk6);clear ho6 hk6 hm6 hown hal hws hI6;go_wp2;refine OnlyN.mk (hK.out _ _ (e_8 (e_8 (e_2 (e_1 ⟨rfl,rfl,{ H with hk:=fun h=>(by cases h),wa:=fun h=>absurd h (by simp[hi]),wz:=fun _ h=>absurd h (by simp[hi]),wb:=fun _ h=>(by cases h),wc:=fun _ _=>⟨_,_,_,_,rfl,HO6.out,HK6.out,HFR.out⟩,wd:=fun h=>absurd (H.ord2 h).1 (by simp[hi]),ord2:=fun h=>⟨rfl,(H.ord2 h).2⟩,o7:=fun _=>(by simp[hi]) }⟩)))))
      ·refine wpOp_hidden rfl fun K hK=>?_;go_wp2;refine OnlyN.mk (hK.out _ _ (e_8 (e_8 (e_2 (e_1 ⟨rfl,rfl,{ H with h8:=fun _=>rfl,ord2:=fun h=>⟨(H.ord2 h).1,rfl⟩ }⟩)))))
      ·obtain rfl:=H.h8 (by simp[hi]);obtain⟨xA',xc',zA,zc,hv,ho6,hk6,hfr⟩:=H.wc (by simp[hi]) (by simp[hi]);subst hv;have hT6:=hk6.blk HTV.out (fun e=>by have:=(own_lt' HOWN.out.1 e).2;have:=HTB.out;omega);have cx9:=hT6.cell_ 2 (.slice B2 os2.length d2) rfl;have fx9:=hT6.frozen 2;have HPOST:=hid (ApcPost.mk15 ho6 hk6 hT6 HTB.out hfr);clear hfr ho6 hk6 hT6;refine wpOp_hidden rfl fun K hK=>?_;go_wp2;refine OnlyN.mk (hK.out _ _ (e_8 (e_8 (e_2 (e_1 ⟨rfl,rfl,{ H with hk:=fun h=>absurd h (by simp[hi]),wa:=fun h=>absurd h (by simp[hi]),wz:=fun _ h=>absurd h (by simp[hi]),wb:=fun _ h=>absurd h (by simp[hi]),wc:=fun _ h=>(by cases h),wd:=fun _=>HPOST.out,ord2:=fun _=>(by simp[hi]) }⟩)))))
     ·rintro listed act w' hr ⟨b0,b1,b2,b3,b4,b5,b6,b7,b8,b9,v57,v58,v59,v60,v61,v62,v63,v64,v65,rfl,rfl,H⟩;have hn:=List.eq_nil_iff_forall_not_mem.1 hr;have r0:=hn 0;simp[mem_ready,Region.binds] at r0;subst r0;have r1:=hn 1;simp[mem_ready,Region.binds] at r1;subst r1;have r2:=hn 2;simp[mem_ready,Region.binds] at r2;subst r2;have r3:=hn 3;simp[mem_ready,Region.binds] at r3;subst r3;have r4:=hn 4;simp[mem_ready,Region.binds] at r4;subst r4;have r5:=hn 5;simp[mem_ready,Region.binds] at r5;subst r5;have r6:=hn 6;simp[mem_ready,Region.binds] at r6;subst r6;have r7:=hn 7;simp[mem_ready,Region.binds] at r7;subst r7;have r8:=hn 8;simp[mem_ready,Region.binds] at r8;subst r8;have r9:=hn 9;simp[mem_ready,Region.binds] at r9;subst r9;try dsimp only
      obtain⟨X9,c9,zA9,zc9,hrd9⟩:=HD2.out.node (H.wd rfl);clear H hr hn;have HRD9:=hid hrd9;have HO9:Hid ((os2 ++ [⟨lv,zA9,zc9,zs⟩]:List Hd).length=m+1∧(os2 ++ [⟨lv,zA9,zc9,zs⟩]:List Hd).map Hd.nd=readN.take (m+1)):=hid (by
       have h1:=HOS2.out;rw[Nat.add_zero] at h1;refine⟨by rw[List.length_append,List.length_singleton,h1.1],?_⟩;rw[List.map_append,h1.2];show readN.take m ++ [(lv,zs)]=_;rw[HZS.out,HKK.out,HLV.out];have h3:=HM.out;obtain rfl | rfl:m=0∨m=1:=by omega
       ·rfl
       ·rfl)
      obtain⟨os9,hos9⟩:∃ o,o=(os2 ++ [⟨lv,zA9,zc9,zs⟩]:List Hd):=⟨_,rfl⟩
      rw[← hos9] at HRD9 HO9;have x2:=HRD9.out.v.bx.cell_ 2 (.slice X9 os9.length c9) rfl;have hwk:wrap64 ((os9.length:Int) - 1)=kk:=by rw[HO9.out.1,HKK.out];have:=HM.out;unfold wrap64;omega
      have HWK:=hid hwk;have HWL:Hid (wrap64 (lv+1)=((1:Nat):Int)+1):=hid (by rw[HLV.out];unfold wrap64;omega);clear hrd9 hos9 HTV HOWN HCALL HBS HAL HTB;go_wp2;go_roundw
      case rel=>exact⟨1,Nat.le_refl _,(by first | (rw[HKK.out];done) | (rw[HWK.out,HKK.out])),(by rw[HWL.out]),X9,c9,os9,HO9,HRD9⟩
      case measure=>rw[HWL.out,HLV.out];decide
    ·obtain rfl:j=1:=by omega
     have x1:=HD2.out.by_.cell_ 1 (.slice cA ch.length cc) rfl;have hown:=HD2.out.oc;have hln:ch.length < 1000000000000:=by have:=HCH.out.2;have:=HM.out;omega
     have hbs:=HD2.out.v.sz;have hwi:wrap64 ((m:Int)+1)=(m:Int)+1:=by have:=HM.out;unfold wrap64;omega
     have HWI:=hid hwi;clear hj hj1;go_wp2_with (at_builtin;refine wpList_pushIk rfl _ _ _ rfl w4.heap.size 3 Tryz.underlying38 Tryz.infoInt _ _ rfl hown _ rfl hln hbs ?_);intro v6 w6 ho6 hk6 hm6;obtain⟨cA6,cc6,e6,-,-⟩:=OwnI.ints ho6;rw[List.length_append,List.length_singleton] at e6;subst e6;obtain⟨hy6,hrd6⟩:=HD2.out.choose ho6 hk6 hm6;have d1:=hy6.cell_ 1 (.slice cA ch.length cc) rfl;have f1:=hy6.frozen 1;have HRD6:=hid hrd6;have HCH6:Hid ((ch ++ [(m:Int)])=([0,1]:List Int).take (m+1)∧(ch ++ [(m:Int)]).length=m+1):=hid (by
      refine⟨?_,by rw[List.length_append,List.length_singleton,HCH.out.2]⟩;rw[HCH.out.1];have:=HM.out;obtain rfl | rfl:m=0∨m=1:=by omega
      ·rfl
      ·rfl)
     obtain⟨ch6,hch6⟩:∃ l,l=ch ++ [(m:Int)]:=⟨_,rfl⟩
     have hcl:ch6.length=ch.length+1:=by rw[hch6,List.length_append,List.length_singleton]
     rw[← hch6] at HRD6 HCH6;have HCL:=hid hcl;clear ho6 hk6 hm6 hown hln hbs hy6 hrd6 x1 hch6 hcl;go_wp2;go_roundw
     case rel=>exact⟨m+1,HM.out,(by first | rfl | (rw[HWI.out];rfl)),B2,d2,os2,cA6,cc6,ch6,HOS2,HCH6,HRD6⟩
     case measure=>(try rw[HWI.out]);simp only[intOf];have:=HM.out;omega
  ·obtain rfl:m=2:=Nat.le_antisymm hm (Nat.le_of_not_lt hm2);obtain⟨wo,hwo⟩:∃ wo,wo=wr:=⟨_,rfl⟩
   subst hwo;have x2:=HD.out.v.bx.cell_ 2 (.slice B os.length d) rfl;have y0:=HD.out.by_.cell_ 0 (.int .i64 2) rfl;have y1:=HD.out.by_.cell_ 1 (.slice cA ch.length cc) rfl;have hown:=HD.out.v.on;have hI:=HD.out.oc;have hal:os.length < 1000000000000:=by have:=HOS.out.1;omega
   have hws:=HD.out.v.sz;clear hm hm2;go_wp2_with (at_builtin;refine wpList_pushN rfl _ _ _ rfl w4.heap.size 58 3 (by decide) Tryz.underlying29 Tryz.infoNode _ _ rfl hown _ _ _ _ hI rfl hal hws ?_);intro v6 w6 ho6 hk6 hm6;obtain⟨X9,c9,e6,-,-⟩:=ho6.nds;rw[List.length_append,List.length_singleton] at e6;subst e6;obtain⟨hx6,hrd6⟩:=HD.out.push ho6 hk6;have d2':=hx6.cell_ 2 (.slice B os.length d) rfl;have f2:=hx6.frozen 2;have HV6:=hid hrd6;have HO6:Hid ((os ++ [⟨2,cA,cc,ch⟩]:List Hd).length=3+0∧(os ++ [⟨2,cA,cc,ch⟩]:List Hd).map Hd.nd=readN.take (3+0)):=hid (by
    refine⟨by rw[List.length_append,List.length_singleton,HOS.out.1],?_⟩;rw[List.map_append,HOS.out.2];show readN.take 2 ++ [(2,ch)]=_;rw[HCH.out.1];rfl)
   obtain⟨os6,hos6⟩:∃ l,l=(os ++ [⟨2,cA,cc,ch⟩]:List Hd):=⟨_,rfl⟩
   rw[← hos6] at HV6 HO6;have hol:os6.length=os.length+1:=by rw[hos6,List.length_append,List.length_singleton]
   have HOL:=hid hol;clear ho6 hk6 hm6 hown hI hal hws hx6 hrd6 x2 y0 y1 hos6 hol;go_upto_region 17 with fail
   clear d2' f2;go_wp2;go_loopw [14] (fun iv wr=>∃ j:Nat,j≤1∧iv=.int .i64 ((j:Int)+3)∧∃ B d os,Hid ((os:List Hd).length=3+j∧os.map Hd.nd=readN.take (3+j))∧Hid (RdV w w4.heap.size X A c B d os wr)) (fun iv _=>5 - (intOf iv).toNat)
   case atStart=>exact⟨0,by decide,rfl,X9,c9,os6,HO6,HV6⟩
   case round=>
    obtain⟨j,hj,rfl,B3,d3,os3,HOS3,HD3⟩:=hrel;clear HO6 HV6 HOL;by_cases hj1:j < 1
    ·obtain rfl:j=0:=by omega
     obtain⟨lv,hlv⟩:∃ lv:Int,lv=((0:Nat):Int)+3:=⟨_,rfl⟩
     obtain⟨kk,hkk⟩:∃ kk:Int,kk=2:=⟨_,rfl⟩
     obtain⟨zs,hzs⟩:∃ zs:List Int,zs=[kk,kk]:=⟨_,rfl⟩
     have HCALL:=hid (all_call wr lv kk zs hzs);have HAL:Hid (os3.length < 1000000000000):=hid (by have:=HOS3.out.1;omega);have HTB:Hid (X < w4.heap.size):=hid HD3.out.g.2;have HTV:=hid HD3.out.bx;have HOWN:=hid HD3.out.on;have HBS:=hid HD3.out.sz;have hd3:decide (lv≤3)=true:=decide_eq_true (by omega);have hwk:wrap64 ((os3.length:Int) - 1)=kk:=by rw[hkk,HOS3.out.1];unfold wrap64;omega
     rw[← hlv];have HLV:=hid hlv;have HKK:=hid hkk;have HZS:=hid hzs;clear hj hj1 hlv hkk hzs;go_upto_region 20 with fail
     refine wp_region_J (by kernel_rfl) (fun listed act w'=>∃ b0 b1 b2 b3 b4 b5 b6 b7 b8 b9 b10 b11 b12 v90 v91 v92 v93 v94 v95 v96 v97 v98 v99 v100 v101,listed=#[b0,b1,b2,b3,b4,b5,b6,b7,b8,b9,b10,b11,b12]∧act=Act.mk #[.int .i64 2,.slice A 3 c,.int .i64 1,undef,undef,undef,.pointer (some ⟨w.heap.size,0,none⟩),.int .i64 0,.pointer (some ⟨X,0,none⟩),.int .i64 2,.pointer (some ⟨Y,0,none⟩),.int .i64 2,u12,u13,.int .i64 lv,.int .i64 2,.bool false,.bool false,.int .i64 2,.bool false,.bool false,.bool false,.slice A 3 c,.bool true,.bool false,.bool false,.bool false,.int .i64 1,.bool false,.bool false,.bool false,.int .i64 1,.slice A 3 c,.int .i64 3,.bool false,.bool false,undef,.int .i64 2,.slice A 3 c,.agg #[.int .i64 2,.slice A 3 c,.slice none 0 0],.slice A 3 c,.int .i64 3,.int .i64 1,.int .i64 2,.int .i64 2,.agg #[.int .i64 2,.slice none 0 0],.int .i64 2,.int .i64 2,.bool false,u49,u50,u51,u52,u53,u54,u55,u56,u57,u58,u59,u60,u61,u62,u63,u64,u65,u66,u67,u68,u69,u70,u71,u72,u73,u74,u75,.pointer (some ⟨X,2,none⟩),.slice B os.length d,.agg #[.int .i64 2,.slice cA ch.length cc],.slice (some ⟨wo.heap.size,0,none⟩) 1 1,.slice X9 (os.length+1) c9,.pointer (some ⟨X,2,none⟩),.int .i64 2,.int .i64 3,.int .i64 lv,.slice A 3 c,.int .i64 3,.bool true,u88,u89,v90,v91,v92,v93,v94,v95,v96,v97,v98,v99,v100,v101,undef] []∧Read20J (wr) (w4.heap.size) (os3) (.slice B3 os3.length d3) (lv) (zs) (X) (.int .i64 2) (.slice A 3 c) (kk) b0 b1 b2 b3 b4 b5 b6 b7 b8 b9 b10 b11 b12 v90 v91 v92 v93 v94 v95 v96 v97 v98 v99 v100 v101 w') ?_ ?_ ?_
     ·exact (e_8 (e_8 (e_8 (e_1 ⟨rfl,rfl,(by constructor;(case hk=>exact (fun _ _ _=>rfl));(case wa=>exact (fun _=>rfl));all_goals simp)⟩))))
     ·rintro i listed act w' hi ⟨b0,b1,b2,b3,b4,b5,b6,b7,b8,b9,b10,b11,b12,v90,v91,v92,v93,v94,v95,v96,v97,v98,v99,v100,v101,rfl,rfl,H⟩;have hi16:i < 13:=by
       obtain⟨-,o,ho,-⟩:=mem_ready.1 hi;exact (Array.getElem?_eq_some_iff.1 ho).1
      obtain rfl | rfl | rfl | rfl | rfl | rfl | rfl | rfl | rfl | rfl | rfl | rfl | rfl:i=0∨i=1∨i=2∨i=3∨i=4∨i=5∨i=6∨i=7∨i=8∨i=9∨i=10∨i=11∨i=12:=by omega
      all_goals simp[mem_ready,Region.binds] at hi
      ·refine wpOp_hidden rfl fun K hK=>?_;go_wp2;refine OnlyN.mk (hK.out _ _ (e_8 (e_8 (e_8 (e_1 ⟨rfl,rfl,{ H with h0:=fun _=>rfl,o1:=fun h=>rfl }⟩)))))
      ·have bAf:b10=false:=by
        cases hb:b10 with
        | false=>rfl
        | true=>exact absurd (H.o10 hb).1 (by simp[hi])
       obtain rfl:=H.h0 (by simp[hi]);have cc:=(H.hk bAf ⟨X,2,none⟩ HTV.out.lt).trans (HTV.out.cell_ 2 _ rfl);clear bAf;refine wpOp_hidden rfl fun K hK=>?_;go_wp2;refine OnlyN.mk (hK.out _ _ (e_8 (e_8 (e_8 (e_1 ⟨rfl,rfl,{ H with h1:=fun _=>rfl,o1:=fun _=>(by simp[hi]),o10:=fun h=>⟨rfl,(H.o10 h).2⟩ }⟩)))))
      ·refine wpOp_hidden rfl fun K hK=>?_;go_wp2;refine OnlyN.mk (hK.out _ _ (e_8 (e_8 (e_8 (e_1 ⟨rfl,rfl,{ H with h2:=fun _=>rfl,o8:=fun h=>⟨rfl,(H.o8 h).2.1,(H.o8 h).2.2⟩ }⟩)))))
      ·refine wpOp_hidden rfl fun K hK=>?_;go_wp2;refine OnlyN.mk (hK.out _ _ (e_8 (e_8 (e_8 (e_1 ⟨rfl,rfl,{ H with h3:=fun _=>rfl,o8:=fun h=>⟨(H.o8 h).1,rfl,(H.o8 h).2.2⟩ }⟩)))))
      ·refine wpOp_hidden rfl fun K hK=>?_;go_wp2;refine OnlyN.mk (hK.out _ _ (e_8 (e_8 (e_8 (e_1 ⟨rfl,rfl,{ H with h4:=fun _=>rfl,o5:=fun h=>rfl }⟩)))))
      ·have bAf:b10=false:=by
        cases hb:b10 with
        | false=>rfl
        | true=>exact absurd (H.o6 (H.o7 (H.o8 (H.o9 (H.o10 hb).2)).2.2)) (by simp[hi])
       obtain rfl:=H.h4 (by simp[hi]);have cc:=(H.hk bAf ⟨X,2,none⟩ HTV.out.lt).trans (HTV.out.cell_ 2 _ rfl);clear bAf;refine wpOp_hidden rfl fun K hK=>?_;go_wp2;refine OnlyN.mk (hK.out _ _ (e_8 (e_8 (e_8 (e_1 ⟨rfl,rfl,{ H with h5:=fun _=>rfl,o5:=fun _=>(by simp[hi]),o6:=fun h=>rfl }⟩)))))
      ·obtain rfl:=H.h5 (by simp[hi]);refine wpOp_hidden rfl fun K hK=>?_;go_wp2;refine OnlyN.mk (hK.out _ _ (e_8 (e_8 (e_8 (e_1 ⟨rfl,rfl,{ H with h6:=fun _=>rfl,o6:=fun _=>(by simp[hi]),o7:=fun h=>rfl }⟩)))))
      ·obtain rfl:=H.h6 (by simp[hi]);refine wpOp_hidden rfl fun K hK=>?_;go_wp2;refine OnlyN.mk (hK.out _ _ (e_8 (e_8 (e_8 (e_1 ⟨rfl,rfl,{ H with h7:=fun _=>rfl,o7:=fun _=>(by simp[hi]),o8:=fun h=>⟨(H.o8 h).1,(H.o8 h).2.1,rfl⟩ }⟩)))))
      ·have bAf:b10=false:=by
        cases hb:b10 with
        | false=>rfl
        | true=>exact absurd (H.o9 (H.o10 hb).2) (by simp[hi])
       obtain rfl:=H.h2 (by simp[hi]);obtain rfl:=H.h3 (by simp[hi]);obtain rfl:=H.h7 (by simp[hi]);have hw:=H.wa (by simp[hi]);have HAF:=hid bAf;subst hw;clear bAf;have hcall:=HCALL.out (World.drew wr) ((Below.refl _ wr).drew);have HCL:=hid hcall;clear hcall;refine wpOp_hidden rfl fun K hK=>?_;go_wp2_with (go_at_call 39;refine HCL.out.mono ?_;rintro e w6 ⟨zA,zc,rfl,hi6,hb6⟩;refine Hid.out ?_);refine hid ?_;have HB6:Hid (Below (World.heap wr).size wr w6):=hid (((Below.refl _ wr).drew).trans hb6);have HI6:Hid (OwnIA w6 (World.heap wr).size (.slice zA (List.length zs) zc) zs):=hid hi6;have HO6:Hid (OwnNA w6 w4.heap.size (.slice B3 os3.length d3) os3):=hid (OwnN.ext HOWN.out HB6.out);clear hi6 hb6;go_wp2;refine OnlyN.mk (hK.out _ _ (e_8 (e_8 (e_8 (e_1 ⟨rfl,rfl,{ H with hk:=fun _ p hp=>HB6.out.cell hp,wa:=fun h=>(by cases h),wz:=fun _ _=>⟨_,_,rfl,HI6.out,HO6.out,HB6.out⟩,wb:=fun h=>absurd (H.o9 h) (by simp[hi]),wc:=fun h=>absurd h (by rw[HAF.out];decide),wd:=fun h=>absurd (H.ord2 h).1 (by rw[HAF.out];decide),o8:=fun _=>(by simp[hi]),o9:=fun h=>rfl }⟩)))))
      ·have bAf:b10=false:=by
        cases hb:b10 with
        | false=>rfl
        | true=>exact absurd (H.o10 hb).2 (by simp[hi])
       obtain⟨zA,zc,hv,hi6,ho6,hb6⟩:=H.wz (by simp[hi]) (by simp[hi]);subst hv;have HAF:=hid bAf;have HWZ:=hid (And.intro hi6 (And.intro ho6 hb6));have HB6:=hid (hb6.alloc hb6.size (.cells #[.int .i64 lv,.slice zA (List.length zs) zc] 58));clear bAf hi6 ho6 hb6;refine wpOp_hidden rfl fun K hK=>?_;go_wp2;refine OnlyN.mk (hK.out _ _ (e_8 (e_8 (e_8 (e_1 ⟨rfl,rfl,{ H with hk:=fun _ p hp=>HB6.out.cell hp,wa:=fun h=>absurd h (by simp[hi]),wz:=fun _ h=>(by cases h),wb:=fun _ _=>⟨_,_,_,rfl,rfl,HWZ.out⟩,wc:=fun h=>absurd h (by rw[HAF.out];decide),wd:=fun h=>absurd (H.ord2 h).1 (by rw[HAF.out];decide),o9:=fun _=>(by simp[hi]),o10:=fun h=>⟨(H.o10 h).1,rfl⟩ }⟩)))))
      ·obtain rfl:=H.h1 (by simp[hi]);obtain⟨zA,zc,Vd,hv,hw,hI6v,hown,hbd⟩:=H.wb (by simp[hi]) (by simp[hi]);subst hw;subst hv;have HFR:Hid (∀ g,(Value.slice zA (List.length zs) zc).ownBlock=some g→(World.heap wr).size≤g):=hid (fun g e=>(own_lt' hI6v e).2);have hI6:OwnIA Vd w4.heap.size (.slice zA (List.length zs) zc) zs:=own_down hI6v HBS.out;clear hI6v;have hal:=HAL.out;have hws:w4.heap.size≤Vd.heap.size:=Nat.le_trans HBS.out hbd.size;have HVD:Hid (Kept (fun g=>Value.ownBlock (.slice B3 os3.length d3)=some g) wr Vd):=hid (Kept.of_new _ hbd);clear hbd;refine wpOp_hidden rfl fun K hK=>?_;refine wpList_pushN rfl _ _ _ rfl w4.heap.size 58 3 (by decide) Tryz.underlying29 Tryz.infoNode _ _ rfl hown _ _ _ _ hI6 rfl hal hws ?_;intro xv' w6 ho6 hk6 hm6;obtain⟨xA',xc',hxv',-,-⟩:=ho6.nds;rw[List.length_append,List.length_singleton] at hxv';subst hxv';have HO6:=hid ho6;have HK6:Hid (Kept (fun g=>Value.ownBlock (.slice B3 os3.length d3)=some g) wr w6):=hid (HVD.out.trans hk6);clear ho6 hk6 hm6 hown hal hws hI6;go_wp2;refine OnlyN.mk (hK.out _ _ (e_8 (e_8 (e_8 (e_1 ⟨rfl,rfl,{ H with hk:=fun h=>(by cases h),wa:=fun h=>absurd h (by simp[hi]),wz:=fun _ h=>absurd h (by simp[hi]),wb:=fun _ h=>(by cases h),wc:=fun _ _=>⟨_,_,_,_,rfl,HO6.out,HK6.out,HFR.out⟩,wd:=fun h=>absurd (H.ord2 h).1 (by simp[hi]),ord2:=fun h=>⟨rfl,(H.ord2 h).2⟩,o10:=fun _=>(by simp[hi]) }⟩)))))
      ·refine wpOp_hidden rfl fun K hK=>?_;go_wp2;refine OnlyN.mk (hK.out _ _ (e_8 (e_8 (e_8 (e_1 ⟨rfl,rfl,{ H with h11:=fun _=>rfl,ord2:=fun h=>⟨(H.ord2 h).1,rfl⟩ }⟩)))))
      ·obtain rfl:=H.h11 (by simp[hi]);obtain⟨xA',xc',zA,zc,hv,ho6,hk6,hfr⟩:=H.wc (by simp[hi]) (by simp[hi]);subst hv;have hT6:=hk6.blk HTV.out (fun e=>by have:=(own_lt' HOWN.out.1 e).2;have:=HTB.out;omega);have cx9:=hT6.cell_ 2 (.slice B3 os3.length d3) rfl;have fx9:=hT6.frozen 2;have HPOST:=hid (ApcPost.mk15 ho6 hk6 hT6 HTB.out hfr);clear hfr ho6 hk6 hT6;refine wpOp_hidden rfl fun K hK=>?_;go_wp2;refine OnlyN.mk (hK.out _ _ (e_8 (e_8 (e_8 (e_1 ⟨rfl,rfl,{ H with hk:=fun h=>absurd h (by simp[hi]),wa:=fun h=>absurd h (by simp[hi]),wz:=fun _ h=>absurd h (by simp[hi]),wb:=fun _ h=>absurd h (by simp[hi]),wc:=fun _ h=>(by cases h),wd:=fun _=>HPOST.out,ord2:=fun _=>(by simp[hi]) }⟩)))))
     ·rintro listed act w' hr ⟨b0,b1,b2,b3,b4,b5,b6,b7,b8,b9,b10,b11,b12,v90,v91,v92,v93,v94,v95,v96,v97,v98,v99,v100,v101,rfl,rfl,H⟩;have hn:=List.eq_nil_iff_forall_not_mem.1 hr;have r0:=hn 0;simp[mem_ready,Region.binds] at r0;subst r0;have r1:=hn 1;simp[mem_ready,Region.binds] at r1;subst r1;have r2:=hn 2;simp[mem_ready,Region.binds] at r2;subst r2;have r3:=hn 3;simp[mem_ready,Region.binds] at r3;subst r3;have r4:=hn 4;simp[mem_ready,Region.binds] at r4;subst r4;have r5:=hn 5;simp[mem_ready,Region.binds] at r5;subst r5;have r6:=hn 6;simp[mem_ready,Region.binds] at r6;subst r6;have r7:=hn 7;simp[mem_ready,Region.binds] at r7;subst r7;have r8:=hn 8;simp[mem_ready,Region.binds] at r8;subst r8;have r9:=hn 9;simp[mem_ready,Region.binds] at r9;subst r9;have r10:=hn 10;simp[mem_ready,Region.binds] at r10;subst r10;have r11:=hn 11;simp[mem_ready,Region.binds] at r11;subst r11;have r12:=hn 12;simp[mem_ready,Region.binds] at r12;subst r12;try dsimp only
      obtain⟨X9,c9,zA9,zc9,hrd9⟩:=HD3.out.node (H.wd rfl);clear H hr hn;have HRD9:=hid hrd9;have HO9:Hid ((os3 ++ [⟨lv,zA9,zc9,zs⟩]:List Hd).length=3+1∧(os3 ++ [⟨lv,zA9,zc9,zs⟩]:List Hd).map Hd.nd=readN.take (3+1)):=hid (by
       have h1:=HOS3.out;refine⟨by rw[List.length_append,List.length_singleton,h1.1],?_⟩;rw[List.map_append,h1.2];show readN.take 3 ++ [(lv,zs)]=_;rw[HZS.out,HKK.out,HLV.out];rfl)
      have HWL:Hid (wrap64 (lv+1)=((1:Nat):Int)+3):=hid (by rw[HLV.out];unfold wrap64;omega);clear hrd9 HTV HOWN HCALL HBS HAL HTB hwk;go_wp2;go_roundw
      case rel=>exact⟨1,Nat.le_refl _,(by rw[HWL.out]),X9,c9,_,HO9,HRD9⟩
      case measure=>rw[HWL.out,HLV.out];decide
    ·obtain rfl:j=1:=by omega
     have x0:=HD3.out.bx.cell_ 0 (.int .i64 2) rfl;have x1:=HD3.out.bx.cell_ 1 (.slice A 3 c) rfl;have x2:=HD3.out.bx.cell_ 2 (.slice B3 os3.length d3) rfl;have r0:=HD3.out.br.cell_ 0 (.int .i64 0) rfl;have r1:=HD3.out.br.cell_ 1 (.slice none 0 0) rfl;have r2:=HD3.out.br.cell_ 2 (.slice none 0 0) rfl;have f0:=HD3.out.br.frozen 0;have f1:=HD3.out.br.frozen 1;have f2:=HD3.out.br.frozen 2;clear hj hj1;go_wp2;have hq:Blk (((wr.setCell ⟨w.heap.size,0,none⟩ (.int .i64 2)).setCell ⟨w.heap.size,1,none⟩ (.slice A 3 c)).setCell ⟨w.heap.size,2,none⟩ (.slice B3 os3.length d3)) w.heap.size 31 #[.int .i64 2,.slice A 3 c,.slice B3 os3.length d3]:=((HD3.out.br.set_ 0 (.int .i64 2)).set_ 1 (.slice A 3 c)).set_ 2 (.slice B3 os3.length d3);have hk:Kept (fun g=>g=w.heap.size) wr (((wr.setCell ⟨w.heap.size,0,none⟩ (.int .i64 2)).setCell ⟨w.heap.size,1,none⟩ (.slice A 3 c)).setCell ⟨w.heap.size,2,none⟩ (.slice B3 os3.length d3)):=(((Kept.refl (fun g=>g=w.heap.size) wr).setCell (p:=⟨w.heap.size,0,none⟩) (Or.inl rfl) _).setCell (p:=⟨w.heap.size,1,none⟩) (Or.inl rfl) _).setCell (p:=⟨w.heap.size,2,none⟩) (Or.inl rfl) _;have hbe:Below w.heap.size w (((wr.setCell ⟨w.heap.size,0,none⟩ (.int .i64 2)).setCell ⟨w.heap.size,1,none⟩ (.slice A 3 c)).setCell ⟨w.heap.size,2,none⟩ (.slice B3 os3.length d3)):=(((HD3.out.be.setCell (p:=⟨w.heap.size,0,none⟩) (Nat.le_refl _) _).setCell (p:=⟨w.heap.size,1,none⟩) (Nat.le_refl _) _).setCell (p:=⟨w.heap.size,2,none⟩) (Nat.le_refl _) _)
     refine bodyPost_ret (results_ct Tryz.results20 _ _ w.heap.size 31 #[.int .i64 2,.slice A 3 c,.slice B3 os3.length d3] (0,0) _ rfl hq Tryz.underlying31 rfl Tryz.sizeTree) rfl ?_;have hon:=HD3.out.on.kept hk (fun g g1 g2=>by subst g2;have:=(own_lt' HD3.out.on.1 g1).2;have:=HD3.out.g;omega) (fun x hx g g1 g2=>by subst g2;have:=(own_lt' (HD3.out.on.2 x hx) g1).2;have:=HD3.out.g;omega);obtain⟨B',d',e,hnd,-⟩:=hon.nds;injection e with e1 e2 e3
     subst e1;exact⟨2,A,3,c,B3,os3.length,d3,rfl,⟨A,c,B3,d3,os3,rfl,HP.out.ext hbe,hnd,HOS3.out.2⟩,hbe⟩
end Go.Proofs.YtlegfdllipkggaaGreatDoor
namespace Go.Proofs.YtlegfdllipkggaaGreatDoor
set_option linter.unusedSimpArgs false
set_option linter.unusedVariables false
set_option maxRecDepth 100000
def exT:TabL:=⟨2,0,lineL,[],[([1,0,0],1),([1,0,0],0)]⟩
def exN:List Nd:=[(1,[0,0]),(1,[1,1]),(2,[0,1]),(1,[1,0]),(2,[3,1]),(3,[2,4])]
def exR:List Nd:=[(1,[0,0]),(2,[0,0]),(1,[1,0]),(2,[2,0]),(3,[1,3])]
theorem ex_right:rightTab exT=true:=by decide
theorem ex_tree:treeT exT=(⟨2,lineL,exN⟩,0):=by
 rw[treeT_yes ex_right (q:=2) rfl];unfold madeP;rw[if_neg (by decide),if_neg (by decide)];have:(growP 2 (fun l=>valT exT (intsN l)) exT.hood.length [] []).2=exN:=by decide
 rw[this];rfl
theorem ex_row:rowT exT 0=(⟨2,lineL,exR⟩,0):=by
 rw[rowT_yes ex_right (by decide) (by decide) (q:=2) rfl];unfold madeP;rw[if_neg (by decide),if_neg (by decide)];have:(growP 2 (fun l=>if (matchT exT 0 (intsN l)).2=true then (1:Int) else 0) exT.hood.length [] []).2=exR:=by decide
 rw[this];rfl
theorem ex_dead:deadT exT=([1],0):=by
 unfold deadT;rw[if_pos ex_right,if_pos (by decide)];have:deadL (aliveTo exT exT.st.toNat exT.hood.length (exT.st.toNat ^ exT.hood.length)) exT.rows.length=[1]:=by decide
 rw[this]
theorem ex_e1:evalP ⟨2,lineL,exN⟩ [1,0,0]=(1,0):=by decide
theorem ex_e2:evalP ⟨2,lineL,exN⟩ [0,1,0]=(1,0):=by decide
theorem ex_e3:evalP ⟨2,lineL,exN⟩ [0,0,0]=(0,0):=by decide
theorem ex_e4:evalP ⟨2,lineL,exR⟩ [1,0,0]=(1,0):=by decide
theorem ex_e5:evalP ⟨2,lineL,exR⟩ [0,1,0]=(0,0):=by decide
theorem read_tab:tableP readT=(⟨2,0,lineL,[[0,1],[0,1],[0,1]],[]⟩,0):=by
 unfold tableP;rw[if_neg (by decide),if_neg (by decide)];have:rowsOf readT=[]:=by decide
 rw[this];rfl
theorem zero_tab:tableP zeroT=(⟨2,0,lineL,[[0,1],[0,1],[0,1]],[([-1,-2,-3],0)]⟩,0):=by
 unfold tableP;rw[if_neg (by decide),if_neg (by decide)];have:rowsOf zeroT=[([-1,-2,-3],0)]:=by decide
 rw[this];rfl
end Go.Proofs.YtlegfdllipkggaaGreatDoor
namespace Go.Proofs.YtlegfdllipkggaaGreatDoor
open Lib(hid)
open Go.RowKit
set_option maxRecDepth 100000
set_option linter.unusedVariables false
set_option linter.unusedSimpArgs false
def valueP (t:PT)(zs:List Int):Int:=if (evalP t zs).2=0 then (evalP t zs).1 else -1
set_option maxHeartbeats 4000000 in
theorem value_tv {w:World}{v:Value}{t:PT}{Av:Option Addr}{cv:Nat}{zs:List Int}(h:TreeAt w v t)(hz:Ints w Av zs) :
  Calls Tryz.prog 23 #[v,.slice Av zs.length cv] w fun e w'=>e=.returned (.int .i64 (valueP t zs))∧Below w.heap.size w w':=by
 obtain⟨st,A,n,c,B,m,d,rfl⟩:=h.form;obtain⟨w0,hw0⟩:∃ w0,w0=w.alloc (.cells #[.int .i64 st,.slice A n c,.slice B m d] 31):=⟨_,rfl⟩
 have hb0:Below w.heap.size w w0:=by rw[hw0];exact below_new _ _
 have p0:Blk w0 w.heap.size 31 #[.int .i64 st,.slice A n c,.slice B m d]:=by rw[hw0];exact Blk.new _ _ _
 have hcall:=reval_tv (cv:=cv) (h.ext hb0) (hz.ext hb0);obtain⟨rr,hrr⟩:∃ rr,rr=evalP t zs:=⟨_,rfl⟩
 obtain⟨n9,hn9⟩:∃ n9,n9=zs.length:=⟨_,rfl⟩
 unfold valueP;rw[← hrr] at hcall ⊢;rw[← hn9] at hcall ⊢;have HCALL:=hid hcall;have HB0:=hid hb0;have HW:=hid hw0;have c0:=p0.cell_ 0 (.int .i64 st) rfl;have c1:=p0.cell_ 1 (.slice A n c) rfl;have c2:=p0.cell_ 2 (.slice B m d) rfl;clear h hz hb0 p0 hcall hrr hn9 hw0;obtain⟨r1,r2⟩:=rr;dsimp only at HCALL ⊢;by_cases h2:r2=0
 ·have k2:(r2 != 0)=false:=by rw[h2];rfl
  rw[if_pos h2];clear h2;go_enter Tryz.func23,Tryz.ntmps23;go_upto_region 1 with fail
  rw[← HW.out];go_wp2_with (go_at_call 44;refine HCALL.out.mono ?_;rintro e w1 ⟨rfl,hb1⟩;refine Hid.out ?_);refine hid ?_;have HB1:=hid (HB0.out.trans (hb1.mono HB0.out.size));clear hb1;go_wp2;go_ret;exact⟨rfl,HB1.out⟩
 ·have k2:(r2 != 0)=true:=by simpa using h2
  rw[if_neg h2];clear h2;go_enter Tryz.func23,Tryz.ntmps23;go_upto_region 1 with fail
  rw[← HW.out];go_wp2_with (go_at_call 44;refine HCALL.out.mono ?_;rintro e w1 ⟨rfl,hb1⟩;refine Hid.out ?_);refine hid ?_;have HB1:=hid (HB0.out.trans (hb1.mono HB0.out.size));clear hb1;go_wp2;go_ret;exact⟨rfl,HB1.out⟩
end Go.Proofs.YtlegfdllipkggaaGreatDoor
