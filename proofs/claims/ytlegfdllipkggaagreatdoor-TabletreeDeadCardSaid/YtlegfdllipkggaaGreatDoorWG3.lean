/-
  texts Ordd Reb Can Vis RbW: parts of the proof; conditions stand with each theorem.
-/
import Derived.Test.YtlegfdllipkggaaGreatDoorWWalk
import Derived.Laws.EntriesVeiled
import Derived.Test.YtlegfdllipkggaaGreatDoorWG1
namespace Go.Proofs.YtlegfdllipkggaaGreatDoor
open Lib(hid)
open Go.RowKit
set_option maxRecDepth 100000
set_option linter.unusedVariables false
set_option linter.unusedSimpArgs false

def RetNds (ns:List Nd)(w:World)(e:Ending)(w':World):Prop:=∃ v os,e=.returned v∧OwnNA w' w.heap.size v os∧os.map Hd.nd=ns∧Below w.heap.size w w'
set_option maxHeartbeats 4000000 in
theorem ordered_any (A:Option Addr)(c:Nat)(hs:List Hd)(w:World)(hN:Nds w A hs)(q:Nat)(P:Nat→Prop)(hq0:0 < q)(hq1:q≤1000)
  (hA:Lev q (hs.map Hd.nd) P) (hl:hs.length < 1000000000000) (f k:Nat) (hf:(ndAt (hs.map Hd.nd) k).1≤f) (hk:P k) :
  Calls Tryz.prog 82 #[.slice A hs.length c,.int .i64 k] w (RetNds (ord (hs.map Hd.nd) f k) w):=by
 obtain⟨i0,hi,hz0,hz1,hz2⟩:=info_parts Tryz.infoInt;have HN:=hid hN;have HA:=hid hA;have HK:=hid (And.intro hf hk);have HQ:=hid (And.intro hq0 hq1);have hn:=hN.le;clear hA hf hk hq0 hq1 hN;go_enter Tryz.func82,Tryz.ntmps82;go_wp2_with (at_make;refine wpList_make_full _ rfl _ _ 38 rfl w.heap.size 3 i0 _ 1 Tryz.underlying38 hi hz0 hz1 .i64 .i64 hs.length hs.length hs.length rfl rfl rfl rfl (by rw[hz2];omega) (by unfold maxLen;omega) (by simp) ?_);intro w1 ho hg;have hs0:=hg.size;have hs1:w.heap.size+1≤w1.heap.size:=by simpa using hg.size
 have hPn:Blk w1 w.heap.size 29 #[.slice A hs.length c]:=(hg.block w.heap.size (by simp) (by simp)).trans (Blk.new w 29 #[.slice A hs.length c]);have hb1:Below w.heap.size w w1:=((Below.refl _ w).alloc (Nat.le_refl _) _).grown hg (by simp) (by intro k hk;cases hk);have ho1:OwnIA w1 w.heap.size (.slice (some ⟨w.heap.size+1,0,none⟩) hs.length hs.length) (List.replicate hs.length 0):=by
  unfold OwnIA OwnI;rw[List.length_replicate,List.map_replicate];rw[toList_madeCells_one] at ho;exact ho
 clear ho hg hs0;go_upto_region 4 with fail
 obtain⟨w4,hw4⟩:∃ w4,w4=((w1.alloc (.cells #[.slice (some ⟨w.heap.size+1,0,none⟩) hs.length hs.length] 38)).alloc (.cells #[.slice none 0 0] 29)).alloc (.cells #[.nilFunc] 120):=⟨_,rfl⟩
 have b0:=below_new w1 (.cells #[.slice (some ⟨w.heap.size+1,0,none⟩) hs.length hs.length] 38);have b1:=below_new (w1.alloc (.cells #[.slice (some ⟨w.heap.size+1,0,none⟩) hs.length hs.length] 38)) (.cells #[.slice none 0 0] 29);have b2:=below_new ((w1.alloc (.cells #[.slice (some ⟨w.heap.size+1,0,none⟩) hs.length hs.length] 38)).alloc (.cells #[.slice none 0 0] 29)) (.cells #[.nilFunc] 120);have b12:=b1.trans (b2.mono b1.size);have b02:=b0.trans (b12.mono b0.size);have p1:=(Blk.new w1 38 #[.slice (some ⟨w.heap.size+1,0,none⟩) hs.length hs.length]).below b12 (by simp);have p2:=(Blk.new (w1.alloc (.cells #[.slice (some ⟨w.heap.size+1,0,none⟩) hs.length hs.length] 38)) 29 #[.slice none 0 0]).below b2 (by simp);have p3:=Blk.new ((w1.alloc (.cells #[.slice (some ⟨w.heap.size+1,0,none⟩) hs.length hs.length] 38)).alloc (.cells #[.slice none 0 0] 29)) 120 #[.nilFunc];rw[← hw4] at b02 p1 p2 p3;have e2:(w1.alloc (.cells #[.slice (some ⟨w.heap.size+1,0,none⟩) hs.length hs.length] 38)).heap.size=w1.heap.size+1:=by simp
 have e3:((w1.alloc (.cells #[.slice (some ⟨w.heap.size+1,0,none⟩) hs.length hs.length] 38)).alloc (.cells #[.slice none 0 0] 29)).heap.size=w1.heap.size+1+1:=by simp
 rw[e2] at p2;rw[e3] at p3;rw[← hw4];have q0:=hPn.below b02 hPn.lt;have q1:=ho1.ext b02;have hbw:Below w.heap.size w w4:=hb1.trans (b02.mono (by omega));obtain⟨N,hNe⟩:∃ N,N=w1.heap.size:=⟨_,rfl⟩
 rw[← hNe] at p1 p2 p3 hs1 ⊢;clear hw4 b0 b1 b2 b12 b02 e2 e3 hPn ho1 hb1 hNe;have c3:=p3.cell_ 0 .nilFunc rfl;have f3:=p3.frozen 0;go_upto_region 5 with fail
 obtain⟨w5,hw5⟩:∃ w5,w5=w4.setCell ⟨N+1+1,0,none⟩ (.func (.func 104) #[] #[.pointer (some ⟨N,0,none⟩),.pointer (some ⟨w.heap.size,0,none⟩),.pointer (some ⟨N+1+1,0,none⟩),.pointer (some ⟨N+1,0,none⟩)]):=⟨_,rfl⟩
 have hWK:WkS w.heap.size N w.heap.size (N+1+1) (N+1) (w.heap.size+1) hs.length A hs.length c (.slice none 0 0) (List.replicate (hs.map Hd.nd).length 0,[]) [] w5:=by
  have hk:Kept (fun g=>g=N+1+1) w4 w5:=by rw[hw5];exact (Kept.refl (fun g=>g=N+1+1) w4).setCell (p:=⟨N+1+1,0,none⟩) (Or.inl rfl) _
  have hlen:(List.replicate (hs.map Hd.nd).length (0:Int)).length=hs.length:=by rw[List.length_replicate,List.length_map]
  refine⟨?_,?_,hk.blk q0 (by omega),?_,hk.blk p2 (by omega),OwnN.nil _ _ _ _,rfl,by omega,by omega,fun x hx=>absurd hx (by simp)⟩
  ·rw[hlen];exact hk.blk p1 (by omega)
  ·rw[hlen,List.length_map];exact hk.own q1 (fun g e=>by injection e with e;subst e;show ¬ w.heap.size+1=N+1+1;omega)
  ·rw[hw5];exact p3.set_ 0 _
 have hb5:Below w.heap.size w w5:=by rw[hw5];exact hbw.setCell (p:=⟨N+1+1,0,none⟩) (by show w.heap.size≤N+1+1;omega) _
 have hcall:=walk_any w.heap.size N w.heap.size (N+1+1) (N+1) (w.heap.size+1) hs.length A c hs w HN.out (Nat.le_refl _) q P HQ.out.1 HQ.out.2 HA.out hl f k _ _ _ w5 HK.out.1 HK.out.2 (Inv.start _ _ _) hWK hb5 hb5.size;have hc7:=hWK.bw.cell_ 0 (.func (.func 104) #[] #[.pointer (some ⟨N,0,none⟩),.pointer (some ⟨w.heap.size,0,none⟩),.pointer (some ⟨N+1+1,0,none⟩),.pointer (some ⟨N+1,0,none⟩)]) rfl;have HCALL:=hid hcall;have HB5:=hid hb5;rw[← hw5];clear hw5 hWK hcall hb5 hbw q0 q1 p1 p2 p3 c3 f3;go_wp2_with (go_at_call 104;refine HCALL.out.mono ?_);rintro e w6 ⟨ov,os,rfl,hc⟩;have hco:=hc.wk.bo.cell_ 0 ov rfl;have HC:=hid hc;clear hc HCALL;go_wp2;go_ret;refine⟨ov,os,rfl,HC.out.wk.out,HC.out.wk.eq,?_⟩;refine HB5.out.trans (HC.out.kp.to_below HB5.out.size (fun g hg hT=>?_));rcases hT with e | e | e
 ·omega
 ·omega
 ·simp[Value.ownBlock] at e
end Go.Proofs.YtlegfdllipkggaaGreatDoor
namespace Go.Proofs.YtlegfdllipkggaaGreatDoor
set_option linter.unusedSimpArgs false
set_option linter.unusedVariables false

def rebStep (ch:Int→List Int→List Int)(st:List Nd × List Int)(x:Nd):List Nd × List Int:=
 ((addN st.1 (x.1,ch x.1 (if 1 < x.1 then x.2.map (fun k=>st.2.getD k.toNat 0) else x.2))).2,st.2 ++ [((addN st.1 (x.1,ch x.1 (if 1 < x.1 then x.2.map (fun k=>st.2.getD k.toNat 0) else x.2))).1:Int)])
def rebTo (ch:Int→List Int→List Int)(l:List Nd)(k:Nat):List Nd × List Int:=(l.take k).foldl (rebStep ch) ([],[])
def chgL (ch:Int→List Int→List Int)(l:List Nd):List Nd:=l.map fun x=>(x.1,ch x.1 x.2)
structure VNd (q:Nat)(l:List Nd):Prop where
 lev:Lev q l (· < l.length)
 ordk:∀ i,i < l.length→1 < (ndAt l i).1→∀ k ∈ (ndAt l i).2,k < (i:Int)
 low:∀ i,i < l.length→(ndAt l i).1=1→∀ k ∈ (ndAt l i).2,0≤k∧k < (q:Int)
structure Chg (q:Nat)(ch:Int→List Int→List Int):Prop where
 len:∀ lv zs,zs.length=q→(ch lv zs).length=q
 sub:∀ lv zs,zs.length=q→1 < lv→∀ z ∈ ch lv zs,z ∈ zs
 map:∀ lv zs (f:Int→Int),zs.length=q→1 < lv→ch lv (zs.map f)=(ch lv zs).map f
 low:∀ zs,zs.length=q→(∀ z ∈ zs,0≤z∧z < (q:Int))→∀ z ∈ ch 1 zs,0≤z∧z < (q:Int)
section
variable {q : Nat} {l : List Nd} {ch : Int → List Int → List Int}
theorem chg_at (ch:Int→List Int→List Int){i:Nat}(hi:i < l.length):ndAt (chgL ch l) i=((ndAt l i).1,ch (ndAt l i).1 (ndAt l i).2):=by
 unfold ndAt chgL;rw[List.getD_eq_getElem?_getD,List.getElem?_map,List.getD_eq_getElem?_getD,List.getElem?_eq_getElem hi];rfl
structure RbI (q:Nat)(ch:Int→List Int→List Int)(l:List Nd)(k:Nat)(st:List Nd × List Int):Prop where
 tl:st.2.length=k
 v:VNd q st.1
 dis:Dis st.1 (· < st.1.length)
 le:st.1.length≤k
 eqv:∀ i,i < k→0≤st.2.getD i 0∧(st.2.getD i 0).toNat < st.1.length∧Eqv q st.1 (st.2.getD i 0).toNat (chgL ch l) i
theorem RbI.start (q:Nat)(ch:Int→List Int→List Int)(l:List Nd):RbI q ch l 0 (rebTo ch l 0):=by
 refine⟨rfl,⟨⟨fun i h=>h,?_,?_,?_⟩,?_,?_⟩,?_,Nat.le_refl _,?_⟩;all_goals intro i h
 all_goals first | exact absurd h (Nat.not_lt_zero _) | (intro h2;exact absurd h2 (Nat.not_lt_zero _))
theorem rebTo_succ (ch:Int→List Int→List Int)(l:List Nd){k:Nat}(hk:k < l.length):rebTo ch l (k+1)=rebStep ch (rebTo ch l k) l[k]:=by
 unfold rebTo;rw[List.take_succ_eq_append_getElem hk,List.foldl_append];rfl
theorem ndAt_get (l:List Nd){k:Nat}(hk:k < l.length):ndAt l k=l[k]:=by
 unfold ndAt;rw[List.getD_eq_getElem?_getD,List.getElem?_eq_getElem hk];rfl
def nxOf (tq:List Int)(x:Nd):List Int:=if 1 < x.1 then x.2.map (fun k=>tq.getD k.toNat 0) else x.2
theorem RbI.nx (h:VNd q l)(hc:Chg q ch){k:Nat}{st:List Nd × List Int}(hi:RbI q ch l k st)(hk:k < l.length) :
  (nxOf st.2 (ndAt l k)).length=q∧(ch (ndAt l k).1 (nxOf st.2 (ndAt l k))).length=q∧(1 < (ndAt l k).1→∀ z ∈ nxOf st.2 (ndAt l k),0≤z∧z.toNat < st.1.length∧(ndAt st.1 z.toNat).1=(ndAt l k).1 - 1)∧
   (¬ 1 < (ndAt l k).1→∀ z ∈ nxOf st.2 (ndAt l k),0≤z∧z < (q:Int)):=by
 have hl:=h.lev.len k hk;have h1:(nxOf st.2 (ndAt l k)).length=q:=by
  unfold nxOf
  split
  ·rw[List.length_map];exact hl
  ·exact hl
 refine⟨h1,hc.len _ _ h1,fun hlv z hz=>?_,fun hlv z hz=>?_⟩
 ·unfold nxOf at hz;rw[if_pos hlv] at hz;obtain⟨y,hy,rfl⟩:=List.mem_map.1 hz;obtain⟨p1,p2,p3⟩:=h.lev.kids k hk hlv y hy;have p4:=h.ordk k hk hlv y hy;obtain⟨e1,e2,e3⟩:=hi.eqv y.toNat (by omega);refine⟨e1,e2,?_⟩;rw[e3.1,chg_at ch p2];exact p3
 ·unfold nxOf at hz;rw[if_neg hlv] at hz;exact h.low k hk (by have:=h.lev.one k hk;omega) z hz
theorem addN_cases (ns:List Nd)(x:Nd):(∃ i,addN ns x=(i,ns)∧i < ns.length∧ndAt ns i=x)∨(addN ns x=(ns.length,ns ++ [x])∧x ∉ ns):=by
 unfold addN;cases hp:posOf ns x with
 | some i=>exact .inl ⟨i,rfl,posOf_some hp⟩
 | none=>exact .inr ⟨rfl,posOf_none hp⟩
theorem mem_of_ndAt {ns:List Nd}{i:Nat}(h:i < ns.length):ndAt ns i ∈ ns:=by rw[ndAt_get ns h];exact List.getElem_mem h
theorem RbI.step (h:VNd q l)(hc:Chg q ch){k:Nat}(hi:RbI q ch l k (rebTo ch l k))(hk:k < l.length):RbI q ch l (k+1) (rebTo ch l (k+1)):=by
 obtain⟨n1,n2,n3,n4⟩:=hi.nx h hc hk;rw[rebTo_succ ch l hk,← ndAt_get l hk];obtain⟨st,hst⟩:∃ st,st=rebTo ch l k:=⟨_,rfl⟩
 rw[← hst] at hi n1 n2 n3 n4 ⊢;clear hst;have hlv1:=h.lev.one k hk;obtain⟨x',hx'⟩:∃ x',x'=((ndAt l k).1,ch (ndAt l k).1 (nxOf st.2 (ndAt l k))):=⟨_,rfl⟩
 have hs:rebStep ch st (ndAt l k)=((addN st.1 x').2,st.2 ++ [((addN st.1 x').1:Int)]):=by rw[hx'];rfl
 rw[hs]
 -- the kids of the new node
 have hkid:1 < x'.1→∀ z ∈ x'.2,0≤z∧z.toNat < st.1.length∧(ndAt st.1 z.toNat).1=x'.1 - 1:=by
  intro hl z hz;rw[hx'] at hl hz ⊢;exact n3 hl z (hc.sub _ _ n1 hl z hz)
 have hlow:x'.1=1→∀ z ∈ x'.2,0≤z∧z < (q:Int):=by
  intro hl z hz;rw[hx'] at hl hz;dsimp only at hl hz;rw[hl] at hz;exact hc.low _ n1 (n4 (by omega)) z hz
 -- a node that reads as x' among nodes that grow from st.1
 have main:∀ (ns':List Nd) (i:Nat),(∃ ys,ns'=st.1 ++ ys)→ndAt ns' i=x'→Eqv q ns' i (chgL ch l) k:=by
  rintro ns' i ⟨ys,rfl⟩ hx;have e1:(ndAt (chgL ch l) k)=((ndAt l k).1,ch (ndAt l k).1 (ndAt l k).2):=chg_at ch hk;have ex1:x'.1=(ndAt l k).1:=by rw[hx']
  refine⟨by rw[hx,e1,ex1],fun ins hl hs=>?_⟩;rw[hx] at hl;cases ins with
  | nil=>simp at hl;omega
  | cons s r=>
   have hq:s < q:=hs s (by simp);simp only[val,Int.toNat_natCast,hx,e1];by_cases hlv:1 < (ndAt l k).1
   ·have hx2:x'.2=(ch (ndAt l k).1 (ndAt l k).2).map (fun z=>st.2.getD z.toNat 0):=by
     rw[hx'];dsimp only;unfold nxOf;rw[if_pos hlv,hc.map _ _ _ (h.lev.len k hk) hlv]
    have hcl:=hc.len (ndAt l k).1 (ndAt l k).2 (h.lev.len k hk);have hg:x'.2.getD s 0=st.2.getD ((ch (ndAt l k).1 (ndAt l k).2).getD s 0).toNat 0:=by
     rw[hx2,List.getD_eq_getElem?_getD,List.getElem?_map,List.getElem?_eq_getElem (by omega:s < (ch (ndAt l k).1 (ndAt l k).2).length)];rw[List.getD_eq_getElem?_getD (l:=ch (ndAt l k).1 (ndAt l k).2),List.getElem?_eq_getElem (by omega:s < (ch (ndAt l k).1 (ndAt l k).2).length)];rfl
    have hm:=hc.sub _ _ (h.lev.len k hk) hlv _ (getD_mem (l:=ch (ndAt l k).1 (ndAt l k).2) (s:=s) (by omega));obtain⟨z,hz⟩:∃ z,z=(ch (ndAt l k).1 (ndAt l k).2).getD s 0:=⟨_,rfl⟩
    rw[← hz] at hg hm ⊢;obtain⟨p1,p2,p3⟩:=h.lev.kids k hk hlv z hm;have p4:=h.ordk k hk hlv z hm;obtain⟨f1,f2,f3⟩:=hi.eqv z.toNat (by omega);rw[hg];have hr:(r.length:Int)=(ndAt st.1 (st.2.getD z.toNat 0).toNat).1:=by
     rw[f3.1,chg_at ch p2];show (r.length:Int)=(ndAt l z.toNat).1;rw[p3];rw[ex1] at hl;simp at hl;omega
    have a1:=(Eqv.app hi.v.lev ys (ndAt st.1 (st.2.getD z.toNat 0).toNat).1.toNat _ (by have:=hi.v.lev.one _ f2;omega) f2).2 r (by rw[ndAt_app_lt f2];exact hr) (fun u hu=>hs u (by simp[hu]));have a2:=f3.2 r hr (fun u hu=>hs u (by simp[hu]));rw[toNat_cast f1] at a1 a2;rw[toNat_cast p1] at a2;rw[a1,a2]
   ·have hr:r=[]:=by
     cases r with
     | nil=>rfl
     | cons _ _=>rw[ex1] at hl;simp at hl;omega
    subst hr;rw[hx'];simp only[val,nxOf];rw[if_neg hlv]
 have hto:∀ (v:Int) (i:Nat),i < k→(st.2 ++ [v]).getD i 0=st.2.getD i 0:=fun v i hik=>by
  rw[List.getD_eq_getElem?_getD,List.getElem?_append_left (by have:=hi.tl;omega),← List.getD_eq_getElem?_getD]
 have htk:∀ (v:Int),(st.2 ++ [v]).getD k 0=v:=fun v=>by
  rw[List.getD_eq_getElem?_getD,List.getElem?_append_right (by have:=hi.tl;omega),hi.tl,Nat.sub_self];rfl
 rcases addN_cases st.1 x' with ⟨i,ha,hil,hin⟩ | ⟨ha,hnot⟩
 ·rw[ha];refine⟨by simp[hi.tl],hi.v,hi.dis,by have:=hi.le;dsimp only;omega,fun j hj=>?_⟩;dsimp only;rcases Nat.lt_or_ge j k with h1 | h1
  ·rw[hto _ _ h1];exact hi.eqv j h1
  ·obtain rfl:j=k:=by omega
   rw[htk];refine⟨by omega,by simpa using hil,?_⟩;rw[Int.toNat_natCast];exact main st.1 i ⟨[],by simp⟩ hin
 ·rw[ha];have hlen:(st.1 ++ [x']).length=st.1.length+1:=by simp
  have hcase:∀ i,i < (st.1 ++ [x']).length→(i < st.1.length∧ndAt (st.1 ++ [x']) i=ndAt st.1 i)∨(i=st.1.length∧ndAt (st.1 ++ [x']) i=x'):=by
   intro i hi';rcases Nat.lt_or_ge i st.1.length with h1 | h1
   ·exact .inl ⟨h1,ndAt_app_lt h1 _⟩
   ·obtain rfl:i=st.1.length:=by omega
    exact .inr ⟨rfl,ndAt_app_len _ _⟩
  refine⟨by simp[hi.tl],⟨⟨fun i h=>h,fun i hi'=>?_,fun i hi'=>?_,fun i hi' hl z hz=>?_⟩,fun i hi' hl z hz=>?_,fun i hi' hl z hz=>?_⟩,fun i j hi' hj' he=>?_,by dsimp only;have:=hi.le;omega,fun j hj=>?_⟩
  ·rcases hcase i hi' with ⟨h1,e⟩ | ⟨h1,e⟩ <;> dsimp only at * <;> rw[e]
   ·exact hi.v.lev.len i h1
   ·rw[hx'];exact n2
  ·rcases hcase i hi' with ⟨h1,e⟩ | ⟨h1,e⟩ <;> dsimp only at * <;> rw[e]
   ·exact hi.v.lev.one i h1
   ·rw[hx'];exact hlv1
  ·rcases hcase i hi' with ⟨h1,e⟩ | ⟨h1,e⟩ <;> dsimp only at * <;> rw[e] at hl hz ⊢
   ·obtain⟨p1,p2,p3⟩:=hi.v.lev.kids i h1 hl z hz;exact⟨p1,by omega,by rw[ndAt_app_lt p2];exact p3⟩
   ·obtain⟨p1,p2,p3⟩:=hkid hl z hz;exact⟨p1,by omega,by rw[ndAt_app_lt p2];exact p3⟩
  ·rcases hcase i hi' with ⟨h1,e⟩ | ⟨h1,e⟩ <;> dsimp only at * <;> rw[e] at hl hz
   ·exact hi.v.ordk i h1 hl z hz
   ·obtain⟨p1,p2,p3⟩:=hkid hl z hz;omega
  ·rcases hcase i hi' with ⟨h1,e⟩ | ⟨h1,e⟩ <;> dsimp only at * <;> rw[e] at hl hz
   ·exact hi.v.low i h1 hl z hz
   ·exact hlow hl z hz
  ·dsimp only at *;rcases hcase i hi' with ⟨h1,e⟩ | ⟨h1,e⟩ <;> rcases hcase j hj' with ⟨h2,e2⟩ | ⟨h2,e2⟩ <;> rw[e,e2] at he
   ·exact hi.dis i j h1 h2 he
   ·exact absurd (by rw[← he];exact mem_of_ndAt h1) hnot
   ·exact absurd (by rw[he];exact mem_of_ndAt h2) hnot
   ·omega
  ·dsimp only;rcases Nat.lt_or_ge j k with h1 | h1
   ·rw[hto _ _ h1];obtain⟨f1,f2,f3⟩:=hi.eqv j h1;exact⟨f1,by rw[hlen];omega,(Eqv.app hi.v.lev _ (ndAt st.1 (st.2.getD j 0).toNat).1.toNat _ (by have:=hi.v.lev.one _ f2;omega) f2).trans f3⟩
   ·obtain rfl:j=k:=by omega
    rw[htk];refine⟨by omega,by rw[Int.toNat_natCast,hlen];omega,?_⟩;rw[Int.toNat_natCast];exact main _ _ ⟨[x'],rfl⟩ (ndAt_app_len _ _)
theorem RbI.all (h:VNd q l)(hc:Chg q ch):∀ k,k≤l.length→RbI q ch l k (rebTo ch l k)
 | 0,_=>RbI.start q ch l
 | k+1,hk=>(RbI.all h hc k (by omega)).step h hc (by omega)
end
def redN (ch:Int→List Int→List Int)(l:List Nd):List Nd:=ord (rebTo ch l l.length).1 100 ((rebTo ch l l.length).2.getD (l.length - 1) 0).toNat

section
variable {q : Nat} {ns : List Nd} {P : Nat → Prop}
theorem Lev.cut (h:Lev q ns P)(L:Int):Lev q ns (fun i=>P i∧(ndAt ns i).1≤L):=
 ⟨fun i hi=>h.lt i hi.1,fun i hi=>h.len i hi.1,fun i hi=>h.one i hi.1,fun i hi h1 k hk=>by
  obtain⟨a,b,c⟩:=h.kids i hi.1 h1 k hk;exact⟨a,⟨b,by rw[c];have:=hi.2;omega⟩,c⟩⟩
theorem ord_lv (hA:Lev q ns P)(dA:Dis ns P){f root:Nat}(hf:(ndAt ns root).1≤f)(hr:P root):∀ i,i < (ord ns f root).length→(ndAt (ord ns f root) i).1≤(ndAt ns root).1:=fun i hi=>by
 obtain⟨-,-,-,-,-,h⟩:=ord_ok (hA.cut (ndAt ns root).1) (fun i j hi hj=>dA i j hi.1 hj.1) hf ⟨hr,Int.le_refl _⟩;obtain⟨j,⟨-,hj⟩,e⟩:=h i hi;rw[e.1];exact hj
theorem ord_self (hA:Lev q ns P)(dA:Dis ns P){root:Nat}(hf:(ndAt ns root).1≤(100:Nat))(hr:P root):ord (ord ns 100 root) 100 ((ord ns 100 root).length - 1)=ord ns 100 root:=by
 obtain⟨o1,o2,o3,o4,o5,o6⟩:=ord_ok hA dA hf hr;exact ord_eq o1 hA o2 dA (by rw[o5.1];exact hf) (by rw[o5.1];exact hf) (by omega) hr o5
def cap (q:Nat):Nat→Nat
 | 0=>0
 | n+1=>q*cap q n+1
end
structure Can (q:Nat)(L:Nat)(ns:List Nd):Prop where
 v:VNd q ns
 dis:Dis ns (· < ns.length)
 pos:0 < ns.length
 root:(ndAt ns (ns.length - 1)).1=(L:Int)
 lv:∀ i,i < ns.length→(ndAt ns i).1≤(L:Int)
 can:ord ns 100 (ns.length - 1)=ns
section
variable {q L : Nat} {ns ns' : List Nd}
theorem ord_can {P:Nat→Prop}{root:Nat}(hA:Lev q ns P)(dA:Dis ns P)(hlow:∀ i,P i→(ndAt ns i).1=1→∀ k ∈ (ndAt ns i).2,0≤k∧k < (q:Int))(hL:L≤100)(hl:(ndAt ns root).1=(L:Int))(hr:P root):Can q L (ord ns 100 root):=by
 have hf:(ndAt ns root).1≤(100:Nat):=by rw[hl];omega
 obtain⟨o1,o2,o3,o4,o5,o6⟩:=ord_ok hA dA hf hr;refine⟨⟨o1,o3,fun i hi hl1 z hz=>?_⟩,o2,o4,by rw[o5.1,hl],fun i hi=>by rw[← hl];exact ord_lv hA dA hf hr i hi,ord_self hA dA hf hr⟩;obtain⟨j,pj,ej⟩:=o6 i hi;obtain⟨s,hs,rfl⟩:=List.getElem_of_mem hz;have hq:s < q:=by rw[← o1.len i hi];exact hs
 have hv:=ej.2 [s] (by rw[hl1];rfl) (by simpa using hq);simp only[val,Int.toNat_natCast] at hv;have hjl:=hA.len j pj;have g:(ndAt (ord ns 100 root) i).2.getD s 0=(ndAt (ord ns 100 root) i).2[s]:=by rw[List.getD_eq_getElem?_getD,List.getElem?_eq_getElem hs];rfl
 rw[g] at hv;rw[hv];exact hlow j pj (by rw[← ej.1];exact hl1) _ (getD_mem (by rw[hjl];exact hq))
theorem red_can {ch:Int→List Int→List Int}(h:VNd q ns)(hc:Chg q ch)(hp:0 < ns.length)(hL:L≤100)(hl:(ndAt ns (ns.length - 1)).1=(L:Int)):Can q L (redN ch ns):=by
 have hR:=RbI.all h hc _ (Nat.le_refl _);obtain⟨g1,g2,g3⟩:=hR.eqv (ns.length - 1) (by omega);have hlv:(ndAt (chgL ch ns) (ns.length - 1)).1=(ndAt ns (ns.length - 1)).1:=by rw[chg_at ch (by omega)]
 exact ord_can hR.v.lev hR.dis hR.v.low hL (by rw[g3.1,hlv,hl]) g2
end
section
variable {q : Nat} {ns : List Nd}
theorem VNd.push (h:VNd q ns){lv:Int}{nx:List Int}(h1:1≤lv)(hlen:nx.length=q)(hlow:lv=1→∀ z ∈ nx,0≤z∧z < (q:Int))(hk:1 < lv→∀ z ∈ nx,0≤z∧z.toNat < ns.length∧(ndAt ns z.toNat).1=lv - 1):VNd q (ns ++ [(lv,nx)]):=by
 have key:∀ i,i < (ns ++ [(lv,nx)]).length→(i < ns.length∧ndAt (ns ++ [(lv,nx)]) i=ndAt ns i)∨(i=ns.length∧ndAt (ns ++ [(lv,nx)]) i=(lv,nx)):=fun i hi=>by
  rw[List.length_append,List.length_singleton] at hi;rcases Nat.lt_or_ge i ns.length with h2 | h2
  ·exact .inl ⟨h2,ndAt_app_lt h2 _⟩
  ·obtain rfl:i=ns.length:=by omega
   exact .inr ⟨rfl,ndAt_app_len _ _⟩
 refine⟨⟨fun i hi=>hi,fun i hi=>?_,fun i hi=>?_,fun i hi hl k hz=>?_⟩,fun i hi hl k hz=>?_,fun i hi hl k hz=>?_⟩;all_goals rcases key i hi with ⟨a,e⟩ | ⟨a,e⟩
 all_goals (try rw[e] at hl)
 all_goals (try rw[e] at hz)
 all_goals (try rw[e])
 ·exact h.lev.len i a
 ·exact hlen
 ·exact h.lev.one i a
 ·exact h1
 ·obtain⟨b1,b2,b3⟩:=h.lev.kids i a hl k hz;exact⟨b1,by rw[List.length_append];omega,by rw[ndAt_app_lt b2];exact b3⟩
 ·obtain⟨b1,b2,b3⟩:=hk hl k hz;exact⟨b1,by rw[List.length_append];omega,by rw[ndAt_app_lt b2];exact b3⟩
 ·exact h.ordk i a hl k hz
 ·obtain⟨b1,b2,b3⟩:=hk hl k hz;omega
 ·exact h.low i a hl k hz
 ·exact hlow hl k hz
end

def Chain (V:List Nd→Int→List Nd→Prop):List Nd→List Int→List Nd→Prop
 | ns,[],ns'=>ns'=ns
 | ns,k :: r,ns'=>∃ ns1,V ns k ns1∧Chain V ns1 r ns'
theorem Chain.snoc {V:List Nd→Int→List Nd→Prop}:∀ {ns:List Nd}{ks:List Int}{ns1:List Nd}{k:Int}{ns2:List Nd},Chain V ns ks ns1→V ns1 k ns2→Chain V ns (ks ++ [k]) ns2
 | ns,[],ns1,k,ns2,h,hv=>by
  obtain rfl:ns1=ns:=h;exact⟨ns2,hv,rfl⟩
 | ns,z :: r,ns1,k,ns2,⟨m,h1,h2⟩,hv=>⟨m,h1,Chain.snoc h2 hv⟩
def Vis (q:Nat):Nat→List Nd→Int→List Nd→Prop
 | 0,ns,v,ns'=>ns'=ns∧0≤v∧v < (q:Int)
 | n+1,ns,v,ns'=>(∃ i:Nat,v=(i:Int)∧i < ns.length∧(ndAt ns i).1=((n+1:Nat):Int)∧ns'=ns)∨
   ∃ ks ns1,Chain (Vis q n) ns ks ns1∧ks.length=q∧(((n+1:Nat):Int),ks) ∉ ns1∧v=(ns1.length:Int)∧ns'=ns1 ++ [(((n+1:Nat):Int),ks)]
structure NV (q:Nat)(ns:List Nd):Prop where
 v:VNd q ns
 dis:Dis ns (· < ns.length)
theorem NV.nil (q:Nat):NV q []:=⟨⟨⟨fun i h=>h,fun i h=>absurd h (by simp),fun i h=>absurd h (by simp),fun i h=>absurd h (by simp)⟩,fun i h=>absurd h (by simp),fun i h=>absurd h (by simp)⟩,fun i j h=>absurd h (by simp)⟩
theorem nd_mem {ns:List Nd}{i:Nat}(h:i < ns.length):ndAt ns i ∈ ns:=by
 unfold ndAt;rw[List.getD_eq_getElem?_getD,List.getElem?_eq_getElem h];exact List.getElem_mem h
theorem NV.push {q:Nat}{ns:List Nd}(h:NV q ns){lv:Int}{nx:List Int}(h1:1≤lv)(hlen:nx.length=q)(hlow:lv=1→∀ z ∈ nx,0≤z∧z < (q:Int))(hk:1 < lv→∀ z ∈ nx,0≤z∧z.toNat < ns.length∧(ndAt ns z.toNat).1=lv - 1)(hn:(lv,nx) ∉ ns):NV q (ns ++ [(lv,nx)]):=by
 refine⟨h.v.push h1 hlen hlow hk,fun i j hi hj e=>?_⟩;dsimp only at hi hj;rw[List.length_append,List.length_singleton] at hi hj;rcases Nat.lt_or_ge i ns.length with hi2 | hi2
 ·rcases Nat.lt_or_ge j ns.length with hj2 | hj2
  ·rw[ndAt_app_lt hi2,ndAt_app_lt hj2] at e;exact h.dis i j hi2 hj2 e
  ·obtain rfl:j=ns.length:=by omega
   rw[ndAt_app_lt hi2,ndAt_app_len] at e;exact absurd (by rw[← e];exact nd_mem hi2) hn
 ·obtain rfl:i=ns.length:=by omega
  rcases Nat.lt_or_ge j ns.length with hj2 | hj2
  ·rw[ndAt_app_lt hj2,ndAt_app_len] at e;exact absurd (by rw[e];exact nd_mem hj2) hn
  ·omega
structure VOk (q n:Nat)(ns:List Nd)(v:Int)(ns':List Nd):Prop where
 nv:NV q ns'
 g:∃ ys,ns'=ns ++ ys∧∀ y ∈ ys,y.1≤(n:Int)
 low:n=0→ns'=ns∧0≤v∧v < (q:Int)
 nd:1≤n→0≤v∧v.toNat < ns'.length∧(ndAt ns' v.toNat).1=(n:Int)
structure COk (q n:Nat)(ns:List Nd)(ks:List Int)(ns':List Nd):Prop where
 nv:NV q ns'
 g:∃ ys,ns'=ns ++ ys∧∀ y ∈ ys,y.1≤(n:Int)
 low:n=0→ns'=ns∧∀ v ∈ ks,0≤v∧v < (q:Int)
 nd:1≤n→∀ v ∈ ks,0≤v∧v.toNat < ns'.length∧(ndAt ns' v.toNat).1=(n:Int)
theorem chain_ok {q n:Nat}{V:List Nd→Int→List Nd→Prop}(hV:∀ ns v ns',NV q ns→V ns v ns'→VOk q n ns v ns'):∀ (ks:List Int)(ns ns':List Nd),NV q ns→Chain V ns ks ns'→COk q n ns ks ns'
 | [],ns,ns',h,hc=>by
  obtain rfl:ns'=ns:=hc;exact⟨h,⟨[],by simp,fun y hy=>absurd hy (by simp)⟩,fun _=>⟨rfl,fun v hv=>absurd hv (by simp)⟩,fun _ v hv=>absurd hv (by simp)⟩
 | k :: r,ns,ns',h,⟨ns1,h1,h2⟩=>by
  have a:=hV _ _ _ h h1;have b:=chain_ok hV r ns1 ns' a.nv h2;obtain⟨y1,e1,l1⟩:=a.g;obtain⟨y2,e2,l2⟩:=b.g;refine⟨b.nv,⟨y1 ++ y2,by rw[e2,e1,List.append_assoc],fun y hy=>?_⟩,fun h0=>?_,fun h1' v hv=>?_⟩
  ·rcases List.mem_append.1 hy with hy | hy
   ·exact l1 y hy
   ·exact l2 y hy
  ·obtain⟨a1,a2,a3⟩:=a.low h0;obtain⟨b1,b2⟩:=b.low h0;refine⟨b1.trans a1,fun v hv=>?_⟩;rcases List.mem_cons.1 hv with rfl | hv
   ·exact⟨a2,a3⟩
   ·exact b2 v hv
  ·rcases List.mem_cons.1 hv with rfl | hv
   ·obtain⟨a1,a2,a3⟩:=a.nd h1';refine⟨a1,by rw[e2,List.length_append];omega,by rw[e2,ndAt_app_lt a2];exact a3⟩
   ·exact b.nd h1' v hv
theorem vis_ok {q:Nat}:∀ (n:Nat)(ns:List Nd)(v:Int)(ns':List Nd),NV q ns→Vis q n ns v ns'→VOk q n ns v ns'
 | 0,ns,v,ns',h,hv=>by
  obtain⟨rfl,h1,h2⟩:=hv;exact⟨h,⟨[],by simp,fun y hy=>absurd hy (by simp)⟩,fun _=>⟨rfl,h1,h2⟩,fun h0=>absurd h0 (by omega)⟩
 | n+1,ns,v,ns',h,hv=>by
  rcases hv with ⟨i,rfl,h1,h2,rfl⟩ | ⟨ks,ns1,hc,hl,hn,rfl,rfl⟩
  ·exact⟨h,⟨[],by simp,fun y hy=>absurd hy (by simp)⟩,fun h0=>absurd h0 (by omega),fun _=>⟨Int.natCast_nonneg _,by rw[Int.toNat_natCast];exact h1,by rw[Int.toNat_natCast];exact h2⟩⟩
  ·have c:=chain_ok (fun a b d e f=>vis_ok n a b d e f) ks ns ns1 h hc;obtain⟨ys,e1,l1⟩:=c.g;refine⟨c.nv.push (by omega) hl (fun h1 z hz=>?_) (fun h1 z hz=>?_) hn,⟨ys ++ [(((n+1:Nat):Int),ks)],by rw[e1,List.append_assoc],fun y hy=>?_⟩,fun h0=>absurd h0 (by omega),fun _=>⟨Int.natCast_nonneg _,by rw[Int.toNat_natCast];simp,by rw[Int.toNat_natCast,ndAt_app_len]⟩⟩
   ·exact (c.low (by omega)).2 z hz
   ·obtain⟨a1,a2,a3⟩:=c.nd (by omega) z hz;exact⟨a1,a2,by rw[a3];omega⟩
   ·rcases List.mem_append.1 hy with hy | hy
    ·have:=l1 y hy;omega
    ·rw[List.mem_singleton.1 hy];exact Int.le_refl _
theorem vis_old {q n:Nat}{ns:List Nd}{v:Int}{ns':List Nd}(h:NV q ns)(hv:Vis q n ns v ns')(ho:1≤n→v.toNat < ns.length):ns'=ns:=by
 cases n with
 | zero=>exact hv.1
 | succ n=>
  rcases hv with ⟨i,-,-,-,e⟩ | ⟨ks,ns1,hc,hl,hn,rfl,rfl⟩
  ·exact e
  ·have c:=chain_ok (fun a b d e f=>vis_ok n a b d e f) ks ns ns1 h hc;obtain⟨ys,e1,-⟩:=c.g;have:=ho (by omega);rw[Int.toNat_natCast,e1,List.length_append] at this;omega
theorem chain_old {q n:Nat}:∀ (ks:List Int)(ns ns':List Nd),NV q ns→Chain (Vis q n) ns ks ns'→(1≤n→∀ k ∈ ks,k.toNat < ns.length)→ns'=ns
 | [],ns,ns',h,hc,_=>hc
 | k :: r,ns,ns',h,⟨ns1,h1,h2⟩,ho=>by
  obtain rfl:=vis_old h h1 (fun hn=>ho hn k (by simp));exact chain_old r ns1 ns' h h2 (fun hn z hz=>ho hn z (by simp[hz]))
theorem chain_found {q n:Nat}{ks:List Int}{ns ns1:List Nd}(h:NV q ns)(hc:Chain (Vis q n) ns ks ns1){i:Nat}(hi:i < ns1.length)(he:ndAt ns1 i=(((n+1:Nat):Int),ks)):Vis q (n+1) ns (i:Int) ns1:=by
 have c:=chain_ok (fun a b d e f=>vis_ok n a b d e f) ks ns ns1 h hc;obtain⟨ys,e1,l1⟩:=c.g;have hil:i < ns.length:=by
  rcases Nat.lt_or_ge i ns.length with h2 | h2
  ·exact h2
  ·exfalso;have hm:ndAt ns1 i ∈ ys:=by
    have:i - ns.length < ys.length:=by rw[e1,List.length_append] at hi;omega
    unfold ndAt;rw[e1,List.getD_eq_getElem?_getD,List.getElem?_append_right h2,List.getElem?_eq_getElem this];exact List.getElem_mem this
   have:=l1 _ hm;rw[he] at this;dsimp only at this;omega
 have e2:ndAt ns i=(((n+1:Nat):Int),ks):=by rw[← he,e1,ndAt_app_lt hil]
 have e3:ns1=ns:=by
  refine chain_old ks ns ns1 h hc fun hn k hk=>?_;have:=(h.v.lev.kids i hil (by rw[e2];dsimp only;omega) k (by rw[e2];exact hk)).2.1;exact this
 exact .inl ⟨i,rfl,hil,by rw[e2],e3⟩
end Go.Proofs.YtlegfdllipkggaaGreatDoor
namespace Go.Proofs.YtlegfdllipkggaaGreatDoor
set_option linter.unusedSimpArgs false
open Go.RowKit
set_option maxRecDepth 100000
set_option linter.unusedVariables false

structure RbW (B Pb M:Nat)(ch:Int→List Int→List Int)(l:List Nd)(k kb:Nat)(toV:Value)(cs:Array Value)(nv:Value)(hs:List Hd)(D:DataW Unit)(w:World):Prop where
 tr:OwnIA w B toV (rebTo ch l k).2
 b:Bld B Pb M 103 cs nv hs D w
 eq:hs.map Hd.nd=(rebTo ch l kb).1
 ap:∀ x ∈ hs,∀ g,x.val.ownBlock=some g→toV.ownBlock≠some g
section
variable {B Pb M : Nat} {ch : Int → List Int → List Int} {l : List Nd} {k kb : Nat} {toV : Value} {cs : Array Value} {nv : Value} {hs : List Hd} {D : DataW Unit} {w w' : World}
theorem RbW.kept (h:RbW B Pb M ch l k kb toV cs nv hs D w){S:Nat→Prop}(hk:Kept S w w')(h1:∀ g,toV.ownBlock=some g→¬ S g)(h2:¬ S Pb)(h3:¬ S M)(h4:∀ g,nv.ownBlock=some g→¬ S g)
  (h5:∀ x ∈ hs,∀ g,x.val.ownBlock=some g→¬ S g):RbW B Pb M ch l k kb toV cs nv hs D w':=
 ⟨hk.own h.tr h1,h.b.kept hk h2 h3 h4 h5,h.eq,h.ap⟩
theorem RbW.ext (h:RbW B Pb M ch l k kb toV cs nv hs D w)(hb:Below w.heap.size w w'):RbW B Pb M ch l k kb toV cs nv hs D w':=
 h.kept (Kept.of_new (fun _=>False) hb) (fun _ _ h=>h) (fun h=>h) (fun h=>h) (fun _ _ h=>h) (fun _ _ _ _ h=>h)
theorem RbW.one (h:RbW B Pb M ch l k kb toV cs nv hs D w){W:World}(hW:RbW B Pb M ch l k kb toV cs nv hs D W){g:Nat}(hg:W.heap.size≤g)(hk:Kept (fun x=>x=g) w w'):RbW B Pb M ch l k kb toV cs nv hs D w':=
 h.kept hk (fun x e e2=>by have:=(own_lt' hW.tr e).1;omega) (fun e=>by have:=hW.b.blk.lt;omega) (fun e=>by have:=hW.b.map.lt;omega) (fun x e e2=>by have:=(own_lt' hW.b.own.1 e).1;omega)
  (fun y hy x e e2=>by have:=(own_lt' (hW.b.own.2 y hy) e).1;omega)
theorem RbW.push (h:RbW B Pb M ch l k (k+1) toV cs nv hs D w){z:Int}(hz:(rebTo ch l (k+1)).2=(rebTo ch l k).2 ++ [z]){v':Value}(ho:OwnIA w' B v' ((rebTo ch l k).2 ++ [z]))(hk:Kept (fun g=>toV.ownBlock=some g) w w')
  (hm:v'.ownBlock=toV.ownBlock∨∃ g,v'.ownBlock=some g∧w.heap.size≤g):RbW B Pb M ch l (k+1) (k+1) v' cs nv hs D w':=by
 refine⟨by rw[hz];exact ho,h.b.kept hk (own_blk_ne' h.tr h.b.blk (by decide)) (own_map_ne h.tr h.b.map) (fun g e1 e2=>own_ne h.tr h.b.own.1 (by decide) e2 e1) (fun x hx g e1 e2=>h.ap x hx g e1 e2),h.eq,fun x hx g e1 e2=>?_⟩;rcases hm with hm | ⟨g',hm,hg⟩
 ·rw[hm] at e2;exact h.ap x hx g e1 e2
 ·rw[hm] at e2;injection e2 with e2
  have:=(own_lt' (h.b.own.2 x hx) e1).1;omega
end
end Go.Proofs.YtlegfdllipkggaaGreatDoor
