/-
  texts PushR0 DeadL LawDead: parts of the proof; conditions stand with each theorem.
-/
import Derived.Test.YtlegfdllipkggaaGreatDoorWG7
import Derived.Test.YtlegfdllipkggaaGreatDoorWG17
import Derived.Test.YtlegfdllipkggaaGreatDoorWG15
import Derived.Test.YtlegfdllipkggaaGreatDoorWG19
import Derived.Test.YtlegfdllipkggaaGreatDoorWG26
import Derived.Test.YtlegfdllipkggaaGreatDoorWPermW
import Derived.Test.YtlegfdllipkggaaGreatDoorWG30
namespace Go.Proofs.YtlegfdllipkggaaGreatDoor
open Go.RowKit
set_option maxRecDepth 100000
set_option linter.unusedVariables false
set_option linter.unusedSimpArgs false
def OwnR0 (T:TypeId)(w:World)(base:Nat)(v:Value)(hs:List Rh):Prop:=w.ownsRow base T 2 v hs.length (hs.flatMap Rh.cells)
theorem OwnR0.nil (T:TypeId)(w:World)(base:Nat):OwnR0 T w base (.slice none 0 0) []:=World.ownsRow_nil _ _ _ _
theorem OwnR0.form {T:TypeId}{w:World}{base:Nat}{v:Value}{hs:List Rh}(h:OwnR0 T w base v hs):∃ A c,v=.slice A hs.length c∧NewA base A:=by
 obtain⟨A,c,e,h1,h2⟩:=own_form h;exact⟨A,c,e,h2⟩
theorem OwnR0.rws {T:TypeId}{w w0:World}{base:Nat}{A:Option Addr}{n c:Nat}{hs:List Rh}(h:OwnR0 T w base (.slice A n c) hs)(hb:Below w0.heap.size w0 w)(hr:∀ x ∈ hs,Ints w0 x.A x.zs):Rws w A hs:=by
 obtain⟨A',c',e,h1,h2⟩:=own_form h;injection e with e1 e2 e3
 subst e1;exact⟨h1.1,h1.2,fun x hx=>(hr x hx).ext hb⟩
theorem wpList_pushR0 {P:Program}{wr:World}{ops:Array Oper}{rest:List Oper}{o:Oper}{a:Act}{Q:Exit→Act→World→Prop}(hgd:o.guard=none)(s x:Operand)(t:TypeId)
  (ho:o.op=.call { callee:=.builtin .append,args:=#[s,x],argTypes:=#[t,t] })
  (base:Nat) (T:TypeId) (ht:P.underlying t=some (.slice T)) (hi:(P.info? T).map (fun i=>(i.zero,i.size,i.bytes))=some (some (.agg #[.slice none 0 0,.int .i64 0]),2,32))
  (v:Value) (hs:List Rh) (hse:a.eval s=v) (hown:OwnR0 T wr base v hs)
  (y:Rh) (hx:a.eval x=.slice (some ⟨wr.heap.size,0,none⟩) 1 1)
  (hn:hs.length < 1000000000000) (hbase:base≤wr.heap.size)
  (h:∀ v' w',OwnR0 T w' base v' (hs ++ [y])→Kept (fun g=>v.ownBlock=some g) wr w'→wpList P ops Q rest (a.put o.dst v') w') :
  wpList P ops Q (o :: rest) a (wr.alloc (.cells #[.slice y.A y.zs.length y.c,.int .i64 y.out] T)):=by
 obtain⟨i0,hi0,hz0,hz1,hz2⟩:=info_parts hi;refine wpList_append_own_at _ hgd s x t ho base T i0 _ 2 32 ht hi0 hz0 hz1 hz2 rfl (by decide) v hs.length _ hse (World.ownsRow.alloc hown _) ⟨wr.heap.size,0,none⟩ 1 1 [.slice y.A y.zs.length y.c,.int .i64 y.out] hx (by simp) ?_ (by simp[Value.oneCell']) (by unfold maxLen;omega) (by omega) (by simp;omega) ?_
 ·intro j u hu;rw[addr_add];have:(wr.alloc (.cells #[.slice y.A y.zs.length y.c,.int .i64 y.out] T)).cell? ⟨wr.heap.size,0+j,none⟩=#[Value.slice y.A y.zs.length y.c,.int .i64 y.out][0+j]?:=cell_of_row _ _ _ _ _ _ (heap_alloc_new wr _);rw[this];simpa using hu
 ·intro v' w' hown' hg _ hat;have hk:Kept (fun g=>v.ownBlock=some g) wr w':=((Kept.refl _ wr).alloc _).grown hg fun g hg=>Or.inl hg;refine h v' w' ?_ hk;unfold OwnR0;rw[List.length_append,List.flatMap_append];exact hown'
end Go.Proofs.YtlegfdllipkggaaGreatDoor
namespace Go.Proofs.YtlegfdllipkggaaGreatDoor
set_option maxRecDepth 100000
set_option linter.unusedVariables false
set_option linter.unusedSimpArgs false
theorem growP_congr {q:Nat}{f g:List Nat→Int}:∀ (L:Nat)(ins:List Nat)(ns:List Nd),(∀ l:List Nat,l.length=L→(∀ s ∈ l,s < q)→f (ins ++ l)=g (ins ++ l))→growP q f L ins ns=growP q g L ins ns
 | 0,ins,ns,h=>by
  have:=h [] rfl (fun s hs=>absurd hs (by simp));rw[List.append_nil] at this;show (f ins,ns)=(g ins,ns)
  rw[this]
 | L+1,ins,ns,h=>by
  have key:∀ j,j≤q→growK (growP q f L) ins j ns=growK (growP q g L) ins j ns:=by
   intro j;induction j with
   | zero=>intro _;rfl
   | succ j ih=>
    intro hj;unfold growK;rw[ih (by omega),growP_congr (f:=f) (g:=g) L (ins ++ [j]) _ (fun l hl hs=>by
     rw[List.append_assoc];refine h ([j] ++ l) (by simp;omega) (fun s hs2=>?_);rcases List.mem_append.1 hs2 with h3 | h3
     ·rw[List.mem_singleton.1 h3];omega
     ·exact hs s h3)]
  unfold growP;rw[key q (Nat.le_refl _)]
theorem madeP_congr {q:Nat}{hood:List (Int × Int)}{f g:List Nat→Int}(h:∀ l:List Nat,l.length=hood.length→(∀ s ∈ l,s < q)→f l=g l):madeP q hood f=madeP q hood g:=by
 unfold madeP;rw[growP_congr (f:=f) (g:=g) hood.length [] [] (fun l hl hs=>by rw[List.nil_append];exact h l hl hs)]
def keepTo {α:Type}(rs:List α)(al:List Bool):Nat→List α
 | 0=>[]
 | k+1=>keepTo rs al k ++ (if al.getD k false=true then rs[k]?.toList else [])
theorem keepTo_map {α β:Type}(f:α→β)(rs:List α)(al:List Bool):∀ k,(keepTo rs al k).map f=keepTo (rs.map f) al k
 | 0=>rfl
 | k+1=>by
  unfold keepTo;rw[List.map_append,keepTo_map f rs al k];by_cases h:al.getD k false=true
  ·rw[if_pos h,if_pos h,List.getElem?_map];cases rs[k]? <;> rfl
  ·rw[if_neg h,if_neg h];rfl
theorem keepTo_mem {α:Type}{rs:List α}{al:List Bool}{x:α}:∀ k,x ∈ keepTo rs al k→x ∈ rs
 | 0,h=>absurd h (by simp[keepTo])
 | k+1,h=>by
  unfold keepTo at h;rcases List.mem_append.1 h with h | h
  ·exact keepTo_mem k h
  ·by_cases hc:al.getD k false=true
   ·rw[if_pos hc] at h;cases he:rs[k]? with
    | none=>rw[he] at h;exact absurd h (by simp)
    | some y=>
     rw[he] at h;have:x=y:=by simpa using h
     rw[this];exact List.mem_of_getElem? he
   ·rw[if_neg hc] at h;exact absurd h (by simp)
theorem keepTo_len {α:Type}(rs:List α)(al:List Bool):∀ k,(keepTo rs al k).length≤k
 | 0=>Nat.le_refl _
 | k+1=>by
  unfold keepTo;rw[List.length_append];have h1:=keepTo_len rs al k;have h2:(if al.getD k false=true then rs[k]?.toList else []).length≤1:=by
   split
   ·cases rs[k]? <;> simp
   ·simp
  omega
theorem keepTo_yes {α:Type}{rs:List α}{al:List Bool}{k:Nat}(hk:k < rs.length)(h:al.getD k false=true):keepTo rs al (k+1)=keepTo rs al k ++ [rs[k]]:=by
 show _ ++ _=_;rw[if_pos h,List.getElem?_eq_getElem hk];rfl
theorem keepTo_no {α:Type}{rs:List α}{al:List Bool}{k:Nat}(h:al.getD k false=false):keepTo rs al (k+1)=keepTo rs al k:=by
 show _ ++ _=_;rw[if_neg (by rw[h];simp),List.append_nil]
theorem firstD_cons (t:TabL)(inn:List Int)(r:Rw)(l:List Rw):firstD t inn (r :: l)=if (rowD t inn r).2=true then some (rowD t inn r).1 else firstD t inn l:=rfl
theorem keepTo_succ {α:Type}(rs:List α)(al:List Bool)(k:Nat):keepTo rs al (k+1)=keepTo rs al k ++ (if al.getD k false=true then rs[k]?.toList else []):=rfl
theorem firstD_app (t:TabL)(inn:List Int):∀ (a b:List Rw),firstD t inn (a ++ b)=(match firstD t inn a with | some s=>some s | none=>firstD t inn b)
 | [],b=>rfl
 | r :: l,b=>by
  rw[List.cons_append,firstD_cons,firstD_cons];by_cases h:(rowD t inn r).2=true
  ·rw[if_pos h,if_pos h]
  ·rw[if_neg h,if_neg h];exact firstD_app t inn l b
theorem firstD_none {t:TabL}{inn:List Int}:∀ {l:List Rw},firstD t inn l=none→∀ r ∈ l,(rowD t inn r).2=false
 | [],_,r,hr=>absurd hr (by simp)
 | x :: l,h,r,hr=>by
  rw[firstD_cons] at h;by_cases hx:(rowD t inn x).2=true
  ·rw[if_pos hx] at h;cases h
  ·rw[if_neg hx] at h;rcases List.mem_cons.1 hr with rfl | hr
   ·simpa using hx
   ·exact firstD_none h r hr
theorem first_keep {t:TabL}{inn:List Int}{al:List Bool}(h:∀ i (hi:i < t.rows.length),(rowD t inn t.rows[i]).2=true→(∀ j (hj:j < i),(rowD t inn t.rows[j]).2=false)→al.getD i false=true):∀ k,k≤t.rows.length→firstD t inn (keepTo t.rows al k)=firstD t inn (t.rows.take k)
 | 0,_=>rfl
 | k+1,hk=>by
  have ih:=first_keep h k (by omega);have e1:t.rows.take (k+1)=t.rows.take k ++ [t.rows[k]]:=by
   rw[List.take_add_one,List.getElem?_eq_getElem (by omega)];rfl
  rw[e1,firstD_app,← ih,keepTo_succ,firstD_app];cases hf:firstD t inn (keepTo t.rows al k) with
  | some s=>rfl
  | none=>
   dsimp only;rw[hf] at ih;have hn:=firstD_none ih.symm;by_cases hd:(rowD t inn t.rows[k]).2=true
   ·rw[if_pos (h k (by omega) hd (fun j hj=>hn _ (by
     rw[List.mem_iff_getElem];exact⟨j,by rw[List.length_take];omega,by rw[List.getElem_take]⟩))),List.getElem?_eq_getElem (by omega)]
    rfl
   ·have:firstD t inn [t.rows[k]]=none:=by
     rw[firstD_cons,if_neg hd];rfl
    rw[this]
    split
    ·rw[List.getElem?_eq_getElem (by omega)];exact this
    ·rfl
theorem digs_find {q:Nat}(hq:0 < q):∀ (n:Nat)(l:List Nat),l.length=n→(∀ s ∈ l,s < q)→∃ m,m < q ^ n∧digs q n m=l
 | 0,l,hl,_=>⟨0,by simp,by rw[List.eq_nil_of_length_eq_zero hl];rfl⟩
 | n+1,l,hl,hs=>by
  have hne:l≠[]:=fun h=>by rw[h] at hl;cases hl
  obtain⟨m,hm,e⟩:=digs_find hq n l.dropLast (by rw[List.length_dropLast];omega) (fun s h=>hs s ((List.dropLast_sublist l).subset h));have hd:=hs _ (List.getLast_mem hne);refine⟨m*q+l.getLast hne,?_,?_⟩
  ·rw[Nat.pow_succ];have:(m+1)*q≤q ^ n*q:=Nat.mul_le_mul_right q hm;rw[Nat.succ_mul] at this;omega
  ·unfold digs;rw[Nat.mul_comm m q,Nat.mul_add_div hq,Nat.mul_add_mod,Nat.div_eq_of_lt hd,Nat.mod_eq_of_lt hd,Nat.add_zero,e];exact List.dropLast_concat_getLast hne
theorem aliveS_keep {t:TabL}{al:List Bool}{inn:List Int}{i:Nat}(h:al.getD i false=true):(aliveS t al inn).getD i false=true:=by
 unfold aliveS
 split
 ·rw[List.getD_eq_getElem?_getD,List.getElem?_set];have hi:i < al.length:=by
   by_cases h2:i < al.length
   ·exact h2
   ·rw[List.getD_eq_getElem?_getD,List.getElem?_eq_none (by omega)] at h;cases h
  split
  ·rw[if_pos (by omega)];rfl
  ·rw[← List.getD_eq_getElem?_getD];exact h
 ·exact h
theorem aliveTo_keep {t:TabL}{q n i m:Nat}(h:(aliveTo t q n m).getD i false=true):∀ d,(aliveTo t q n (m+d)).getD i false=true
 | 0=>h
 | d+1=>aliveS_keep (aliveTo_keep h d)
theorem alive_hit {t:TabL}{q:Nat}(hq:0 < q){l:List Nat}(hl:l.length=t.hood.length)(hs:∀ s ∈ l,s < q){i:Nat}(h:hitD t (intsN l)=some i)(hi:i < t.rows.length):(aliveTo t q t.hood.length (q ^ t.hood.length)).getD i false=true:=by
 obtain⟨m,hm,e⟩:=digs_find hq t.hood.length l hl hs;obtain⟨d,hd⟩:∃ d,q ^ t.hood.length=m+1+d:=⟨q ^ t.hood.length - (m+1),by omega⟩
 rw[hd];refine aliveTo_keep ?_ d;unfold aliveTo;rw[e];unfold aliveS;rw[h];dsimp only;rw[List.getD_eq_getElem?_getD,List.getElem?_set,if_pos rfl,if_pos (by rw[aliveTo_len];exact hi)];rfl
theorem dead_law {t:TabL}(hr:rightTab t=true){al:List Bool}(hal:al=aliveTo t t.st.toNat t.hood.length (t.st.toNat ^ t.hood.length)):treeT ⟨t.st,t.sym,t.hood,t.vars,keepTo t.rows al t.rows.length⟩=treeT t:=by
 obtain⟨⟨h2,h8⟩,hh,hp,hv,hn,hva,hro⟩:=rightTab_parts hr;obtain⟨q,hq⟩:∃ q:Nat,t.st=(q:Int):=⟨t.st.toNat,by omega⟩
 have hqn:t.st.toNat=q:=by rw[hq];rfl
 have hru:rightTab ⟨t.st,t.sym,t.hood,t.vars,keepTo t.rows al t.rows.length⟩=true:=by
  unfold rightTab headTab at hr ⊢;simp only[Bool.and_eq_true,decide_eq_true_eq] at hr ⊢;obtain⟨⟨⟨⟨⟨⟨⟨h1,h2⟩,h3⟩,h4⟩,h5⟩,h6⟩,h7⟩,h8⟩:=hr;exact⟨⟨⟨⟨⟨⟨⟨h1,h2⟩,h3⟩,h4⟩,h5⟩,Nat.le_trans (keepTo_len _ _ _) h6⟩,h7⟩,List.all_eq_true.2 fun x hx=>List.all_eq_true.1 h8 x (keepTo_mem _ hx)⟩
 rw[treeT_yes hr hq,treeT_yes hru hq];refine madeP_congr (fun l hl hs=>?_);have hst:=(states_intsN hq hs).1;have hrow:∀ r,rowD ⟨t.st,t.sym,t.hood,t.vars,keepTo t.rows al t.rows.length⟩ (intsN l) r=rowD t (intsN l) r:=fun r=>rfl;have hfe:∀ rs,firstD ⟨t.st,t.sym,t.hood,t.vars,keepTo t.rows al t.rows.length⟩ (intsN l) rs=firstD t (intsN l) rs:=by
  intro rs;induction rs with
  | nil=>rfl
  | cons r rs ih=>rw[firstD_cons,firstD_cons,hrow,ih]
 have hmt:∀ j (hj:j < t.rows.length),matchT t (j:Int) (intsN l)=rowD t (intsN l) t.rows[j]:=fun j hj=>by
  unfold matchT;rw[if_neg (by
   rw[hr,hst,intsN_len];intro h;rcases h with h | h | h | h | h
   ·cases h
   ·omega
   ·omega
   ·exact h hl
   ·cases h),Int.toNat_natCast,List.getD_eq_getElem?_getD,List.getElem?_eq_getElem hj]
  rfl
 have hfirst:firstD t (intsN l) (keepTo t.rows al t.rows.length)=firstD t (intsN l) t.rows:=by
  have:=first_keep (t:=t) (inn:=intsN l) (al:=al) (fun i hi hd hb=>by
   rw[hal,hqn];exact alive_hit (t:=t) (by omega) hl hs (find_hit hi (by rw[hmt i hi];exact hd) (fun j hj=>by rw[hmt j (by omega)];exact hb j hj)) hi) t.rows.length (Nat.le_refl _)
  rw[List.take_length] at this;exact this
 unfold valT;dsimp only;rw[hfe,hfirst]
theorem deadT_parts {t:TabL}(h:(deadT t).2=0):rightTab t=true∧(deadT t).1=deadL (aliveTo t t.st.toNat t.hood.length (t.st.toNat ^ t.hood.length)) t.rows.length:=by
 unfold deadT at h ⊢;by_cases h1:rightTab t=true
 ·rw[if_pos h1] at h ⊢;by_cases h2:smallP t.st.toNat t.hood.length=true
  ·rw[if_pos h2];exact⟨h1,rfl⟩
  ·rw[if_neg h2] at h;cases h
 ·rw[if_neg h1] at h;cases h
theorem deadL_mem {al:List Bool}{n k:Nat}(hk:k < n):(k:Int) ∈ deadL al n ↔ al.getD k false=false:=by
 unfold deadL;rw[List.mem_map];constructor
 ·rintro⟨i,hi,e⟩;have:i=k:=by omega
  subst this;simpa using (List.mem_filter.1 hi).2
 ·intro h;exact⟨k,List.mem_filter.2 ⟨List.mem_range.2 hk,by simpa using h⟩,rfl⟩
end Go.Proofs.YtlegfdllipkggaaGreatDoor
namespace Go.Proofs.YtlegfdllipkggaaGreatDoor
open Lib(hid)
open Go.RowKit Go.Maps
set_option maxRecDepth 100000
set_option linter.unusedVariables false
set_option linter.unusedSimpArgs false
structure UB (W0:World)(pU:Nat)(c0 c1 c2 c3:Value)(acc:List Rh)(xv:Value)(wr:World):Prop where
 G:Blk wr pU 26 #[c0,c1,c2,c3,xv]
 R:OwnR0 43 wr W0.heap.size xv acc
 below:Below W0.heap.size W0 wr
 hX:W0.heap.size≤pU
section
variable {W0 : World} {pU : Nat} {c0 c1 c2 c3 : Value} {acc : List Rh} {xv : Value} {wr : World}
theorem UB.new (W:World)(c0 c1 c2 c3 x:Value):UB W W.heap.size c0 c1 c2 c3 [] (.slice none 0 0) ((W.alloc (.cells #[c0,c1,c2,c3,x] 26)).setCell ⟨W.heap.size,4,none⟩ (.slice none 0 0)):=
 have hb:Below W.heap.size W (W.alloc (.cells #[c0,c1,c2,c3,x] 26)):=below_new _ _
 ⟨(Blk.new W 26 #[c0,c1,c2,c3,x]).set_ 4 _,OwnR0.nil _ _ _,hb.trans ((((Kept.refl (fun g=>g=W.heap.size) _).setCell (p:=⟨W.heap.size,4,none⟩) (Or.inl rfl) _)).to_below hb.size (fun g hg e=>by omega)),Nat.le_refl _⟩
theorem UB.ext (h:UB W0 pU c0 c1 c2 c3 acc xv wr){w':World}(hb:Below wr.heap.size wr w'):UB W0 pU c0 c1 c2 c3 acc xv w':=
 ⟨h.G.below hb h.G.lt,own_below h.R hb,h.below.trans (hb.mono h.below.size),h.hX⟩
theorem UB.G6 (h:UB W0 pU c0 c1 c2 c3 acc xv wr){w6:World}(hk:Kept (fun g=>xv.ownBlock=some g) wr w6):Blk w6 pU 26 #[c0,c1,c2,c3,xv]:=hk.blk h.G (own_blk_ne' h.R h.G (by decide))
theorem UB.push (h:UB W0 pU c0 c1 c2 c3 acc xv wr){y:Rh}{xv':Value}{w6:World}(ho:OwnR0 43 w6 W0.heap.size xv' (acc ++ [y]))(hk:Kept (fun g=>xv.ownBlock=some g) wr w6) :
  UB W0 pU c0 c1 c2 c3 (acc ++ [y]) xv' (w6.setCell ⟨pU,4,none⟩ xv'):=by
 have a3:=h.G6 hk;have k7:Kept (fun g=>g=pU) w6 (w6.setCell ⟨pU,4,none⟩ xv'):=(Kept.refl (fun g=>g=pU) w6).setCell (p:=⟨pU,4,none⟩) (Or.inl rfl) xv';have hb6:Below W0.heap.size W0 w6:=h.below.trans (hk.to_below h.below.size (fun g hg e=>by have:=(own_lt' h.R e).2;omega));exact⟨a3.set_ 4 xv',k7.own ho (fun g e1 e2=>by subst e2;exact own_blk_ne' ho a3 (by decide) e1),hb6.trans (k7.to_below hb6.size (fun g hg e=>by have:=h.hX;omega)),h.hX⟩
end
def inTo (l:List Int)(i j:Nat):Bool:=(l.take j).any fun z=>z == (i:Int)
theorem inTo_succ {l:List Int}{i j:Nat}(hj:j < l.length):inTo l i (j+1)=(inTo l i j || (l[j] == (i:Int))):=by
 unfold inTo;rw[List.take_add_one,List.getElem?_eq_getElem hj,List.any_append]
 simp
theorem inTo_all {al:List Bool}{n i:Nat}{l:List Int}(hl:l=deadL al n)(hi:i < n):inTo l i l.length = !al.getD i false:=by
 unfold inTo;rw[List.take_length];cases h:al.getD i false with
 | true=>
  show _=false;rw[List.any_eq_false];intro z hz e;have:z=(i:Int):=by simpa using e
  rw[this,hl,deadL_mem hi,h] at hz;cases hz
 | false=>
  show _=true;rw[List.any_eq_true];exact⟨_,by rw[hl];exact (deadL_mem hi).2 h,by simp⟩
structure Dd21J (V:World)(bs:Nat)(acc:List Rh)(xv:Value)(lv:Int)(zA:Option Addr)(zc:Nat)(zs:List Int)(pU:Nat)(pX:Nat)(rb:Nat)(ro:Nat)(rn:Nat)(rc:Nat)(i:Nat)(post:World→Prop)(b0 b1 b2 b3 b4 b5 b6 b7 b8 b9 b10:Bool)(v65 v66 v67 v68 v69 v70 v71 v72 v73 v74:Value)(w:World):Prop where
 h0:b0=true→v65=.pointer (some ⟨pU,4,none⟩)
 h1:b1=true→v66=xv
 h2:b2=true→v67=.pointer (some ⟨pX,4,none⟩)
 h3:b3=true→v68=.slice (some ⟨rb,ro,none⟩) rn rc
 h4:b4=true→v69=.int .i64 (i:Int)
 h5:b5=true→v70=.pointer (some ⟨rb,ro+i*2,none⟩)
 h6:b6=true→v71=.agg #[.slice zA zs.length zc,.int .i64 lv]
 h9:b9=true→v74=.pointer (some ⟨pU,4,none⟩)
 hk:b8=false→∀ p:Addr,p.block < V.heap.size→w.cell? p=V.cell? p
 wa:b7=false→w=V.drew
 wb:b7=true→b8=false→v72=.slice (some ⟨V.heap.size,0,none⟩) 1 1∧w=V.drew.alloc (.cells #[.slice zA zs.length zc,.int .i64 lv] 43)
 wc:b8=true→b10=false→∃ X c,v73=.slice X (acc.length+1) c∧OwnR0 43 w bs (.slice X (acc.length+1) c) (acc ++ [⟨zA,zc,zs,lv⟩])∧Kept (fun g=>xv.ownBlock=some g) V w
 wd:b10=true→post w
 ord2:b10=true→b8=true∧b9=true
 o1:b1=true→b0=true
 o3:b3=true→b2=true
 o5:b5=true→b3=true∧b4=true
 o6:b6=true→b5=true
 o7:b7=true→b6=true
 o8:b8=true→b1=true∧b7=true
set_option maxHeartbeats 16000000 in
theorem lawDead_any (hA:Option Addr)(hc:Nat)(vA:Option Addr)(vc:Nat)(rA:Option Addr)(rc:Nat)(t:TabH)(w:World)(hT:TabR w hA vA rA t)(ht:TabB w.heap.size w)(hG:GMat w) :
  Calls Tryz.prog 5 #[tabV hA hc vA vc rA rc t] w fun e w'=>e=.returned (.bool true)∧Below w.heap.size w w':=by
 have hSYM:SymOk t.sym:=symOk t.sym;obtain⟨w0,hw0⟩:∃ w0,w0=w.alloc (.cells #[.int .i64 t.st,.int .i64 t.sym,.slice hA t.hood.length hc,.slice vA t.vs.length vc,.slice rA t.rs.length rc] 26):=⟨_,rfl⟩
 obtain⟨pX,hpX⟩:∃ p,p=w.heap.size:=⟨_,rfl⟩
 have hv:=TvB.new (hc:=hc) (vc:=vc) (rc:=rc) hT;rw[← hw0,← hpX] at hv;have HX:=hid hv;have hb0:Below w.heap.size w w0:=by rw[hw0];exact below_new _ _
 have HB:Hid (Below w.heap.size w w0):=hid hb0;have HW0:=hid (And.intro hw0 hpX);have HTAB:=hid ht;have HGM:=hid hG;have HSYM:=hid hSYM;obtain⟨te,hte⟩:∃ te,te=treeT t.tab:=⟨_,rfl⟩
 have HTE:=hid hte.symm;obtain⟨dx,hdx⟩:∃ d,d=deadT t.tab:=⟨_,rfl⟩
 have HDX:=hid hdx.symm;obtain⟨a,ee⟩:=te;obtain⟨dl,de⟩:=dx;have hr9:t.rs.length≤9223372036854775807:=hT.rows.le;have HRL:Hid (t.tab.rows.length=t.rs.length):=hid (by unfold TabH.tab;simp);clear hw0 hpX hv hb0 hT ht hG hSYM hte hdx;cases hy:tinyB t.tab with
 | false=>
  go_enter Tryz.func5,Tryz.ntmps5;unfold tabV;go_upto_region 1 with fail
  rw[← HW0.out.1,← HW0.out.2];clear HW0;obtain⟨a0,a1,a2,a3,a4⟩:=HX.out.cells;have hcall:=tiny_any hA hc vA vc rA rc t w0 HX.out.tb;rw[hy] at hcall;unfold tabV at hcall;have HCALL:=hid hcall;clear hcall;go_wp2_with (go_at_call 6;refine HCALL.out.mono ?_;intro e x1 hx;obtain⟨rfl,hb⟩:=hx;refine Hid.out ?_);refine hid ?_;replace HB:=hid (HB.out.trans (hb.mono HB.out.size));replace HX:=hid (HX.out.ext hb);clear hb HCALL;clear a0 a1 a2 a3 a4;have hcall:=awake_any x1 ((HTAB.out.on HB.out).up HB.out.size) (HGM.out.ext HB.out);have HCALL:=hid hcall;clear hcall;go_wp2_with (go_at_call 7;refine HCALL.out.mono ?_;intro e x2 hx;obtain⟨rfl,hb⟩:=hx;refine Hid.out ?_);refine hid ?_;replace HB:=hid (HB.out.trans (hb.mono HB.out.size));replace HX:=hid (HX.out.ext hb);clear hb HCALL;go_wp2;go_ret;exact⟨rfl,HB.out⟩
 | true=>
  go_enter Tryz.func5,Tryz.ntmps5;unfold tabV;go_upto_region 1 with fail
  rw[← HW0.out.1,← HW0.out.2];clear HW0;obtain⟨a0,a1,a2,a3,a4⟩:=HX.out.cells;have hcall:=tiny_any hA hc vA vc rA rc t w0 HX.out.tb;rw[hy] at hcall;unfold tabV at hcall;have HCALL:=hid hcall;clear hcall;go_wp2_with (go_at_call 6;refine HCALL.out.mono ?_;intro e x1 hx;obtain⟨rfl,hb⟩:=hx;refine Hid.out ?_);refine hid ?_;replace HB:=hid (HB.out.trans (hb.mono HB.out.size));replace HX:=hid (HX.out.ext hb);clear hb HCALL;clear a0 a1 a2 a3 a4;go_upto_region 3 with fail
  obtain⟨a0,a1,a2,a3,a4⟩:=HX.out.cells;have hcall:=dead_any hA hc vA vc rA rc t x1 HX.out.tb (HGM.out.ext HB.out) HSYM.out.c;rw[HDX.out] at hcall;dsimp only at hcall;unfold tabV at hcall;have HCALL:=hid hcall;clear hcall;go_wp2_with (go_at_call 16;refine HCALL.out.mono ?_;intro e x2 hx;obtain⟨dV,rfl,hd1,hb⟩:=hx;obtain⟨dA,dc,rfl,hI,-⟩:=hd1.ints;refine Hid.out ?_);refine hid ?_;replace HB:=hid (HB.out.trans (hb.mono HB.out.size));replace HX:=hid (HX.out.ext hb);clear hb HCALL;clear a0 a1 a2 a3 a4;have HI1:=hid hI;clear hI hd1;obtain⟨a0,a1,a2,a3,a4⟩:=HX.out.cells;have hcall:=rdead_any hA hc vA vc rA rc t x2 HX.out.tb;rw[HDX.out] at hcall;dsimp only at hcall;unfold tabV at hcall;have HCALL:=hid hcall;clear hcall;go_wp2_with (go_at_call 17;refine HCALL.out.mono ?_;intro e x3 hx;obtain⟨mV,rfl,hd1,hb⟩:=hx;obtain⟨mA,mc,rfl,hI,-⟩:=hd1.ints;refine Hid.out ?_);refine hid ?_;replace HB:=hid (HB.out.trans (hb.mono HB.out.size));replace HX:=hid (HX.out.ext hb);replace HI1:=hid (HI1.out.ext hb);clear hb HCALL;clear a0 a1 a2 a3 a4;have HI2:=hid hI;clear hI hd1;go_upto_region 5 with fail
  have hcall:=ints12_any dA dc dl mA mc dl x3 HI1.out HI2.out;rw[decide_eq_true (rfl:dl=dl)] at hcall;have HCALL:=hid hcall;clear hcall;by_cases h0:de=0
  ·subst h0;have hDL:rightTab t.tab=true∧dl=deadL (aliveTo t.tab t.tab.st.toNat t.tab.hood.length (t.tab.st.toNat ^ t.tab.hood.length)) t.tab.rows.length:=by
    have h1:=deadT_parts (t:=t.tab) (by rw[HDX.out]);rw[HDX.out] at h1;exact h1
   obtain⟨al,hal⟩:∃ al,al=aliveTo t.tab t.tab.st.toNat t.tab.hood.length (t.tab.st.toNat ^ t.tab.hood.length):=⟨_,rfl⟩
   rw[← hal,HRL.out] at hDL;have HDL:=hid hDL.2;have HTU:Hid (treeT (TabH.tab ⟨t.st,t.sym,t.hood,t.vs,keepTo t.rs al t.rs.length⟩)=(a,ee)):=hid (by
    rw[← HTE.out,← dead_law hDL.1 hal];unfold TabH.tab;dsimp only;rw[keepTo_map,List.length_map])
   have HN4:Hid (t.rs.length≤400):=hid (by rw[← HRL.out];exact (rightTab_parts hDL.1).2.2.2.2.1);clear hDL hal;go_wp2_with (go_at_call 18;refine HCALL.out.mono ?_;intro e x4 hx;obtain⟨rfl,kq,hwq0⟩:=hx;have hwq:=hid hwq0;clear hwq0;refine Hid.out ?_);refine hid ?_;have hb:Below x3.heap.size x3 x4:=by rw[hwq.out];exact below_drewN (Below.refl _ _) kq
   replace HB:=hid (HB.out.trans (hb.mono HB.out.size));replace HX:=hid (HX.out.ext hb);replace HI1:=hid (HI1.out.ext hb);replace HI2:=hid (HI2.out.ext hb);clear hb HCALL hwq;go_upto_region 9 with fail
   obtain⟨a0,a1,a2,a3,a4⟩:=HX.out.cells;obtain⟨pU,hpU⟩:∃ p,p=x4.heap.size:=⟨_,rfl⟩
   have hu:=UB.new x4 (.int .i64 t.st) (.int .i64 t.sym) (.slice hA t.hood.length hc) (.slice vA t.vs.length vc) (.slice rA t.rs.length rc);rw[← hpU] at hu;obtain⟨wU,hwU⟩:∃ W,W=x4.alloc (.cells #[.int .i64 t.st,.int .i64 t.sym,.slice hA t.hood.length hc,.slice vA t.vs.length vc,.slice rA t.rs.length rc] 26):=⟨_,rfl⟩
   rw[← hwU] at hu;have hG0:Blk wU pU 26 #[.int .i64 t.st,.int .i64 t.sym,.slice hA t.hood.length hc,.slice vA t.vs.length vc,.slice rA t.rs.length rc]:=by rw[hwU,hpU];exact Blk.new _ _ _
   have HU0:=hid hu;have g4:=hG0.cell_ 4 (.slice rA t.rs.length rc) rfl;have f4:=hG0.frozen 4;clear hu hG0;go_upto_region 10 with fail
   rw[← hwU,← hpU];clear hwU hpU;go_upto_region 11 with fail
   clear a0 a1 a2 a3 a4 g4 f4;obtain⟨wV,hwV⟩:∃ W,W=wU.setCell ⟨pU,4,none⟩ (.slice none 0 0):=⟨_,rfl⟩
   rw[← hwV];have hu:=HU0.out;rw[← hwV] at hu;have HUB:=hid hu;have HXV:=hid (HX.out.ext hu.below);clear HU0 hwV hu;obtain⟨a0,a1,a2,a3,a4⟩:=HXV.out.cells;go_wp2;clear a0 a1 a2 a3 a4 HXV;go_loopw [47] (fun iv wr=>∃ (i:Nat) (xv:Value),i≤t.rs.length∧iv=.int .i64 i∧Hid (UB x4 pU (.int .i64 t.st) (.int .i64 t.sym) (.slice hA t.hood.length hc) (.slice vA t.vs.length vc) (keepTo t.rs al i) xv wr)) (fun iv _=>t.rs.length - (intOf iv).toNat)
   case atStart=>exact⟨0,_,Nat.zero_le _,rfl,HUB⟩
   case round=>
    clear HUB;obtain⟨i,xv,hi,rfl,HUB⟩:=hrel;by_cases hil:i < t.rs.length
    ·have hwi:wrap64 ((i:Int)+1)=(i:Int)+1:=by unfold wrap64;omega
     have HIL:=hid hil;have HWI:=hid hwi;have HXV:=hid (HX.out.ext HUB.out.below);have HDV:=hid (HI1.out.ext HUB.out.below);have hd9:dl.length≤9223372036854775807:=HI1.out.le;clear hi hwi;go_upto_region 16 with fail
     go_loopw [9,52] (fun dv jv wl=>∃ j:Nat,j≤dl.length∧jv=.int .i64 j∧dv=.bool (inTo dl i j)∧wr=wl) (fun _ jv _=>dl.length - (intOf jv).toNat)
     case atStart=>exact⟨0,Nat.zero_le _,rfl,rfl,rfl⟩
     case round=>
      obtain⟨j,hj,rfl,rfl,rfl⟩:=hrel;by_cases hjl:j < dl.length
      ·obtain⟨db,d0,eA,hdb,ck⟩:=HDV.out.at_ hjl;have hs:=inTo_succ (i:=i) hjl;obtain⟨z,hz⟩:∃ z,z=dl[j]'hjl:=⟨_,rfl⟩
       rw[← hz] at ck hs;have HJ:=hid hjl;have hwj:wrap64 ((j:Int)+1)=(j:Int)+1:=by unfold wrap64;omega
       have HWJ:=hid hwj;have HS:=hid hs;clear hs;subst eA;clear hj hwj hz hdb;cases hb:inTo dl i j with
       | true=>
        rw[hb] at HS;go_wp2;go_roundw
        case rel=>exact⟨j+1,HJ.out,(by first | rfl | (rw[HWJ.out];rfl)),(by rw[HS.out];rfl),(by first | rfl | trivial)⟩
        case measure=>(try rw[HWJ.out]);exact meas_step HJ.out
       | false=>
        rw[hb] at HS;go_wp2;go_roundw
        case rel=>exact⟨j+1,HJ.out,(by first | rfl | (rw[HWJ.out];rfl)),(by rw[HS.out];rfl),(by first | rfl | trivial)⟩
        case measure=>(try rw[HWJ.out]);exact meas_step HJ.out
      ·obtain rfl:j=dl.length:=Nat.le_antisymm hj (Nat.le_of_not_lt hjl);clear hj hjl;rw[inTo_all HDL.out HIL.out];cases hb:al.getD i false with
       | false=>
        have HK:Hid (UB x4 pU (.int .i64 t.st) (.int .i64 t.sym) (.slice hA t.hood.length hc) (.slice vA t.vs.length vc) (keepTo t.rs al (i+1)) xv wr):=hid (by rw[keepTo_no hb];exact HUB.out);clear hb;go_wp2;go_roundw
        case rel=>exact⟨i+1,_,HIL.out,(by first | rfl | (rw[HWI.out];rfl)),HK⟩
        case measure=>(try rw[HWI.out]);exact meas_step HIL.out
       | true=>
        have HKY:=hid (keepTo_yes HIL.out hb);obtain⟨rb,ro,ea,hrb,hca,hda,-⟩:=HXV.out.tb.rows.at_ hil;obtain⟨xh,hxh⟩:∃ z,z=t.rs[i]'hil:=⟨_,rfl⟩
        rw[← hxh] at hca hda HKY;obtain⟨zA,zc,zs,lv⟩:=xh;dsimp only at hca hda;subst ea;obtain⟨oA,oc,exv,-⟩:=HUB.out.R.form;subst exv;have HOWN:=hid HUB.out.R;have HAL:Hid ((keepTo t.rs al i).length < 1000000000000):=hid (by have:=keepTo_len t.rs al i;have:=HN4.out;have:=HIL.out;omega);have HBS:=hid HUB.out.below.size;have HLX:Hid ((pU < wr.heap.size∧wr.cell? ⟨pU,4,none⟩=some (.slice oA (keepTo t.rs al i).length oc))∧(pX < wr.heap.size∧wr.cell? ⟨pX,4,none⟩=some (.slice (some ⟨rb,ro,none⟩) t.rs.length rc))∧rb < wr.heap.size∧wr.cell? ⟨rb,ro+i*2,none⟩=some (.slice zA zs.length zc)∧wr.cell? ⟨rb,ro+i*2+1,none⟩=some (.int .i64 lv)):=hid ⟨⟨HUB.out.G.lt,HUB.out.G.cell_ 4 _ rfl⟩,⟨HXV.out.blk.lt,HXV.out.blk.cell_ 4 _ rfl⟩,hrb,hca,hda⟩;clear hb hxh hca hda hrb;go_upto_region 21 with fail
        refine wp_region_J (by kernel_rfl) (fun listed act w'=>∃ b0 b1 b2 b3 b4 b5 b6 b7 b8 b9 b10 v65 v66 v67 v68 v69 v70 v71 v72 v73 v74,listed=#[b0,b1,b2,b3,b4,b5,b6,b7,b8,b9,b10]∧act=Act.mk #[.agg #[.int .i64 t.st,.int .i64 t.sym,.slice hA t.hood.length hc,.slice vA t.vs.length vc,.slice (some ⟨rb,ro,none⟩) t.rs.length rc],.pointer (some ⟨pX,0,none⟩),.bool false,.slice dA dl.length dc,.int .i64 0,.slice mA dl.length mc,.int .i64 0,.pointer (some ⟨pU,0,none⟩),.int .i64 ↑i,.bool !true,undef,u11,undef,undef,undef,undef,.agg #[.int .i64 t.st,.int .i64 t.sym,.slice hA t.hood.length hc,.slice vA t.vs.length vc,.slice (some ⟨rb,ro,none⟩) t.rs.length rc],.bool true,.bool false,undef,Value.tuple #[.slice dA dl.length dc,.int .i64 0],.agg #[.int .i64 t.st,.int .i64 t.sym,.slice hA t.hood.length hc,.slice vA t.vs.length vc,.slice (some ⟨rb,ro,none⟩) t.rs.length rc],Value.tuple #[.slice dA dl.length dc,.int .i64 0],.slice dA dl.length dc,.int .i64 0,Value.tuple #[.slice mA dl.length mc,.int .i64 0],.agg #[.int .i64 t.st,.int .i64 t.sym,.slice hA t.hood.length hc,.slice vA t.vs.length vc,.slice (some ⟨rb,ro,none⟩) t.rs.length rc],Value.tuple #[.slice mA dl.length mc,.int .i64 0],.slice mA dl.length mc,.int .i64 0,.slice dA dl.length dc,.slice mA dl.length mc,.bool true,.bool false,.bool false,.int .i64 0,.int .i64 0,.bool false,.bool false,.int .i64 0,.bool false,undef,.agg #[.int .i64 t.st,.int .i64 t.sym,.slice hA t.hood.length hc,.slice vA t.vs.length vc,.slice (some ⟨rb,ro,none⟩) t.rs.length rc],.pointer (some ⟨pU,4,none⟩),.pointer (some ⟨pX,4,none⟩),.slice (some ⟨rb,ro,none⟩) t.rs.length rc,.int .i64 ↑t.rs.length,.int .i64 ↑i,.bool true,.int .i64 ↑i,.slice dA dl.length dc,.int .i64 ↑dl.length,.int .i64 ↑dl.length,.bool false,u54,u55,u56,u57,u58,u59,u60,u61,u62,.bool !true,.bool true,v65,v66,v67,v68,v69,v70,v71,v72,v73,v74,u75,undef,undef,undef,undef,undef,undef,undef,undef,undef,undef,undef,undef,undef,undef,undef,undef,undef,undef,undef,undef,undef] []∧Dd21J wr x4.heap.size (keepTo t.rs al i) (.slice oA (keepTo t.rs al i).length oc) lv zA zc zs pU pX rb ro t.rs.length rc i (fun W9=>∃ xv2,UB x4 pU (.int .i64 t.st) (.int .i64 t.sym) (.slice hA t.hood.length hc) (.slice vA t.vs.length vc) (keepTo t.rs al i ++ [⟨zA,zc,zs,lv⟩]) xv2 W9) b0 b1 b2 b3 b4 b5 b6 b7 b8 b9 b10 v65 v66 v67 v68 v69 v70 v71 v72 v73 v74 w') ?_ ?_ ?_
        ·exact (e_8 (e_8 (e_4 (e_1 ⟨rfl,rfl,⟨(by simp),(by simp),(by simp),(by simp),(by simp),(by simp),(by simp),(by simp),(fun _ _ _=>rfl),(fun _=>rfl),(by simp),(by simp),(by simp),(by simp),(by simp),(by simp),(by simp),(by simp),(by simp),(by simp)⟩⟩))))
        ·rintro i listed act w' hi ⟨b0,b1,b2,b3,b4,b5,b6,b7,b8,b9,b10,v65,v66,v67,v68,v69,v70,v71,v72,v73,v74,rfl,rfl,H⟩;have hi16:i < 11:=by
          obtain⟨-,o,ho,-⟩:=mem_ready.1 hi;exact (Array.getElem?_eq_some_iff.1 ho).1
         obtain rfl | rfl | rfl | rfl | rfl | rfl | rfl | rfl | rfl | rfl | rfl:i=0∨i=1∨i=2∨i=3∨i=4∨i=5∨i=6∨i=7∨i=8∨i=9∨i=10:=by omega
         all_goals simp[mem_ready,Region.binds] at hi
         ·refine wpOp_hidden rfl fun K hK=>?_;go_wp2;refine OnlyN.mk (hK.out _ _ (e_8 (e_8 (e_4 (e_1 ⟨rfl,rfl,{ H with h0:=fun _=>rfl,o1:=fun h=>rfl }⟩)))))
         ·have bAf:b8=false:=by
           cases hb:b8 with
           | false=>rfl
           | true=>exact absurd (H.o8 hb).1 (by simp[hi])
          obtain rfl:=H.h0 (by simp[hi]);have cc0:=(H.hk bAf ⟨pU,4,none⟩ HLX.out.1.1).trans HLX.out.1.2;clear bAf;refine wpOp_hidden rfl fun K hK=>?_;go_wp2;refine OnlyN.mk (hK.out _ _ (e_8 (e_8 (e_4 (e_1 ⟨rfl,rfl,{ H with h1:=fun _=>rfl,o1:=fun _=>(by simp[hi]),o8:=fun h=>⟨rfl,(H.o8 h).2⟩ }⟩)))))
         ·refine wpOp_hidden rfl fun K hK=>?_;go_wp2;refine OnlyN.mk (hK.out _ _ (e_8 (e_8 (e_4 (e_1 ⟨rfl,rfl,{ H with h2:=fun _=>rfl,o3:=fun h=>rfl }⟩)))))
         ·have bAf:b8=false:=by
           cases hb:b8 with
           | false=>rfl
           | true=>exact absurd (H.o5 (H.o6 (H.o7 (H.o8 hb).2))).1 (by simp[hi])
          obtain rfl:=H.h2 (by simp[hi]);have cc0:=(H.hk bAf ⟨pX,4,none⟩ HLX.out.2.1.1).trans HLX.out.2.1.2;clear bAf;refine wpOp_hidden rfl fun K hK=>?_;go_wp2;refine OnlyN.mk (hK.out _ _ (e_8 (e_8 (e_4 (e_1 ⟨rfl,rfl,{ H with h3:=fun _=>rfl,o3:=fun _=>(by simp[hi]),o5:=fun h=>⟨rfl,(H.o5 h).2⟩ }⟩)))))
         ·refine wpOp_hidden rfl fun K hK=>?_;go_wp2;refine OnlyN.mk (hK.out _ _ (e_8 (e_8 (e_4 (e_1 ⟨rfl,rfl,{ H with h4:=fun _=>rfl,o5:=fun h=>⟨(H.o5 h).1,rfl⟩ }⟩)))))
         ·obtain rfl:=H.h3 (by simp[hi]);obtain rfl:=H.h4 (by simp[hi]);refine wpOp_hidden rfl fun K hK=>?_;go_wp2;refine OnlyN.mk (hK.out _ _ (e_8 (e_8 (e_4 (e_1 ⟨rfl,rfl,{ H with h5:=fun _=>rfl,o5:=fun _=>(by simp[hi]),o6:=fun h=>rfl }⟩)))))
         ·have bAf:b8=false:=by
           cases hb:b8 with
           | false=>rfl
           | true=>exact absurd (H.o7 (H.o8 hb).2) (by simp[hi])
          obtain rfl:=H.h5 (by simp[hi]);have cc0:=(H.hk bAf ⟨rb,ro+i*2,none⟩ HLX.out.2.2.1).trans HLX.out.2.2.2.1;have cc1:=(H.hk bAf ⟨rb,ro+i*2+1,none⟩ HLX.out.2.2.1).trans HLX.out.2.2.2.2;clear bAf;refine wpOp_hidden rfl fun K hK=>?_;go_wp2;refine OnlyN.mk (hK.out _ _ (e_8 (e_8 (e_4 (e_1 ⟨rfl,rfl,{ H with h6:=fun _=>rfl,o6:=fun _=>(by simp[hi]),o7:=fun h=>rfl }⟩)))))
         ·have bAf:b8=false:=by
           cases hb:b8 with
           | false=>rfl
           | true=>exact absurd (H.o8 hb).2 (by simp[hi])
          obtain rfl:=H.h6 (by simp[hi]);have hw:=H.wa (by simp[hi]);have hA:=bAf;subst hw;clear bAf;refine wpOp_hidden rfl fun K hK=>?_;go_wp2;refine OnlyN.mk (hK.out _ _ (e_8 (e_8 (e_4 (e_1 ⟨rfl,rfl,{ H with hk:=fun _ p hp=>World.cell?_alloc_lt wr _ p hp,wa:=fun h=>(by cases h),wb:=fun _ _=>⟨rfl,rfl⟩,wc:=fun h=>absurd h (by rw[hA];decide),wd:=fun h=>absurd (H.ord2 h).1 (by rw[hA];decide),o7:=fun _=>(by simp[hi]),o8:=fun h=>⟨(H.o8 h).1,rfl⟩ }⟩)))))
         ·obtain rfl:=H.h1 (by simp[hi]);obtain⟨hv,hw⟩:=H.wb (by simp[hi]) (by simp[hi]);obtain⟨Vd,hVd⟩:∃ Vd,Vd=World.drew wr:=⟨_,rfl⟩
          have hsz:wr.heap.size=Vd.heap.size:=by rw[hVd];rfl
          rw[← hVd] at hw;rw[hsz] at hv;subst hw;subst hv;have hown:OwnR0 43 Vd x4.heap.size (.slice oA (keepTo t.rs al i).length oc) (keepTo t.rs al i):=by rw[hVd];exact HOWN.out
          have hal:=HAL.out;have hws:x4.heap.size≤Vd.heap.size:=by rw[← hsz];exact HBS.out
          have HVD:=hid hVd;have HSZ:=hid hsz;clear hVd hsz;refine wpOp_hidden rfl fun K hK=>?_;refine wpList_pushR0 rfl _ _ _ rfl x4.heap.size 43 Tryz.underlying24 Tryz.infoRow _ _ rfl hown ⟨zA,zc,zs,lv⟩ rfl hal hws ?_;intro xv' w6 ho6 hk6;obtain⟨xA',xc',hxv',-⟩:=ho6.form;rw[List.length_append,List.length_singleton] at hxv';subst hxv';have HO6:=hid ho6;have HK6:Hid (Kept (fun g=>Value.ownBlock (.slice oA (keepTo t.rs al i).length oc)=some g) wr w6):=hid (Kept.trans (by rw[HVD.out];exact (Kept.refl _ wr).drew) hk6);clear ho6 hk6 hown hal hws;go_wp2;refine OnlyN.mk (hK.out _ _ (e_8 (e_8 (e_4 (e_1 ⟨rfl,rfl,{ H with hk:=fun h=>(by cases h),wa:=fun h=>absurd h (by simp[hi]),wb:=fun _ h=>(by cases h),wc:=fun _ _=>⟨_,_,rfl,HO6.out,HK6.out⟩,wd:=fun h=>absurd (H.ord2 h).1 (by simp[hi]),ord2:=fun h=>⟨rfl,(H.ord2 h).2⟩,o8:=fun _=>(by simp[hi]) }⟩)))))
         ·refine wpOp_hidden rfl fun K hK=>?_;go_wp2;refine OnlyN.mk (hK.out _ _ (e_8 (e_8 (e_4 (e_1 ⟨rfl,rfl,{ H with h9:=fun _=>rfl,ord2:=fun h=>⟨(H.ord2 h).1,rfl⟩ }⟩)))))
         ·obtain rfl:=H.h9 (by simp[hi]);obtain⟨xA',xc',hv,ho6,hk6⟩:=H.wc (by simp[hi]) (by simp[hi]);subst hv;have hG6:=HUB.out.G6 hk6;have cx6:=hG6.cell_ 4 (.slice oA (keepTo t.rs al i).length oc) rfl;have fx6:=hG6.frozen 4;have hn1:=HUB.out.push ho6 hk6;clear hG6;have HPOST:=hid (hn1);clear ho6 hk6;refine wpOp_hidden rfl fun K hK=>?_;go_wp2;refine OnlyN.mk (hK.out _ _ (e_8 (e_8 (e_4 (e_1 ⟨rfl,rfl,{ H with hk:=fun h=>absurd h (by simp[hi]),wa:=fun h=>absurd h (by simp[hi]),wb:=fun _ h=>absurd h (by simp[hi]),wc:=fun _ h=>(by cases h),wd:=fun _=>⟨_,HPOST.out⟩,ord2:=fun _=>(by simp[hi]) }⟩)))))
        ·rintro listed act w' hr ⟨b0,b1,b2,b3,b4,b5,b6,b7,b8,b9,b10,v65,v66,v67,v68,v69,v70,v71,v72,v73,v74,rfl,rfl,H⟩;have hn:=List.eq_nil_iff_forall_not_mem.1 hr;have r0:=hn 0;simp[mem_ready,Region.binds] at r0;subst r0;have r1:=hn 1;simp[mem_ready,Region.binds] at r1;subst r1;have r2:=hn 2;simp[mem_ready,Region.binds] at r2;subst r2;have r3:=hn 3;simp[mem_ready,Region.binds] at r3;subst r3;have r4:=hn 4;simp[mem_ready,Region.binds] at r4;subst r4;have r5:=hn 5;simp[mem_ready,Region.binds] at r5;subst r5;have r6:=hn 6;simp[mem_ready,Region.binds] at r6;subst r6;have r7:=hn 7;simp[mem_ready,Region.binds] at r7;subst r7;have r8:=hn 8;simp[mem_ready,Region.binds] at r8;subst r8;have r9:=hn 9;simp[mem_ready,Region.binds] at r9;subst r9;have r10:=hn 10;simp[mem_ready,Region.binds] at r10;subst r10;try dsimp only
         obtain⟨xv2,HP⟩:=H.wd rfl;have HK:=hid HP;clear H hr hn HP;go_wp2;go_roundw
         case rel=>exact⟨i+1,_,HIL.out,(by first | rfl | (rw[HWI.out];rfl)),(by rw[HKY.out];exact HK)⟩
         case measure=>(try rw[HWI.out]);exact meas_step HIL.out
    ·obtain rfl:i=t.rs.length:=Nat.le_antisymm hi (Nat.le_of_not_lt hil);clear hi hil;obtain⟨oA,oc,exv,-⟩:=HUB.out.R.form;subst exv;have hbU:=HUB.out.below;have HRX:Hid (∀ x ∈ keepTo t.rs al t.rs.length,Ints x4 x.A x.zs):=hid (fun x hx=>HX.out.tb.rows.2.2 x (keepTo_mem _ hx));replace HB:=hid (HB.out.trans (hbU.mono HB.out.size));replace HX:=hid (HX.out.ext hbU);replace HI1:=hid (HI1.out.ext hbU);replace HI2:=hid (HI2.out.ext hbU);clear hbU;obtain⟨a0,a1,a2,a3,a4⟩:=HX.out.cells;have hcall:=tree15_any hA hc vA vc rA rc t wr HX.out.tb (HGM.out.ext HB.out) ((HTAB.out.on HB.out).up HB.out.size) HSYM.out;rw[HTE.out] at hcall;unfold tabV at hcall;have HCALL:=hid hcall;clear hcall;go_wp2_with (go_at_call 8;refine HCALL.out.mono ?_;intro e x5 hx;obtain⟨s5,A5,n5,c5,B5,m5,d5,rfl,hat,hb⟩:=hx;refine Hid.out ?_);refine hid ?_;replace HB:=hid (HB.out.trans (hb.mono HB.out.size));replace HX:=hid (HX.out.ext hb);replace HI1:=hid (HI1.out.ext hb);replace HI2:=hid (HI2.out.ext hb);replace HUB:=hid (HUB.out.ext hb);clear hb HCALL;clear a0 a1 a2 a3 a4;obtain⟨y5,hw⟩:∃ W,W=x5.alloc (.cells #[.int .i64 s5,.slice A5 n5 c5,.slice B5 m5 d5] 31):=⟨_,rfl⟩
     obtain⟨pP,hp⟩:∃ p,p=x5.heap.size:=⟨_,rfl⟩
     have hv:=TrV.new hat;rw[← hw,← hp] at hv;have hb:Below x5.heap.size x5 y5:=by rw[hw];exact below_new _ _
     replace HB:=hid (HB.out.trans (hb.mono HB.out.size));replace HX:=hid (HX.out.ext hb);replace HI1:=hid (HI1.out.ext hb);replace HI2:=hid (HI2.out.ext hb);replace HUB:=hid (HUB.out.ext hb);have HP:=hid hv;clear hv hb hat;go_upto_region 24 with fail
     rw[← hw,← hp];clear hw hp;have b0:=HUB.out.G.cell_ 0 _ rfl;have b1:=HUB.out.G.cell_ 1 _ rfl;have b2:=HUB.out.G.cell_ 2 _ rfl;have b3:=HUB.out.G.cell_ 3 _ rfl;have b4:=HUB.out.G.cell_ 4 _ rfl;have hcall:=tree15_any hA hc vA vc oA oc ⟨t.st,t.sym,t.hood,t.vs,keepTo t.rs al t.rs.length⟩ y5 ⟨HX.out.tb.hood,HX.out.tb.vars,HUB.out.R.rws HUB.out.below HRX.out⟩ (HGM.out.ext HB.out) ((HTAB.out.on HB.out).up HB.out.size) HSYM.out;rw[HTU.out] at hcall;unfold tabV at hcall;dsimp only at hcall;have HCALL:=hid hcall;clear hcall;go_wp2_with (go_at_call 8;refine HCALL.out.mono ?_;intro e x6 hx;obtain⟨s6,A6,n6,c6,B6,m6,d6,rfl,hat,hb⟩:=hx;refine Hid.out ?_);refine hid ?_;replace HB:=hid (HB.out.trans (hb.mono HB.out.size));replace HP:=hid (HP.out.ext hb);replace HX:=hid (HX.out.ext hb);replace HI1:=hid (HI1.out.ext hb);replace HI2:=hid (HI2.out.ext hb);replace HUB:=hid (HUB.out.ext hb);clear hb HCALL;clear b0 b1 b2 b3 b4;obtain⟨y6,hw⟩:∃ W,W=x6.alloc (.cells #[.int .i64 s6,.slice A6 n6 c6,.slice B6 m6 d6] 31):=⟨_,rfl⟩
     obtain⟨pQ,hp⟩:∃ p,p=x6.heap.size:=⟨_,rfl⟩
     have hv:=TrV.new hat;rw[← hw,← hp] at hv;have hb:Below x6.heap.size x6 y6:=by rw[hw];exact below_new _ _
     replace HB:=hid (HB.out.trans (hb.mono HB.out.size));replace HP:=hid (HP.out.ext hb);replace HX:=hid (HX.out.ext hb);replace HI1:=hid (HI1.out.ext hb);replace HI2:=hid (HI2.out.ext hb);replace HUB:=hid (HUB.out.ext hb);have HQ:=hid hv;clear hv hb hat;go_upto_region 25 with fail
     rw[← hw,← hp];clear hw hp;obtain⟨cP0,cP1,cP2⟩:=HP.out.cells;obtain⟨cQ0,cQ1,cQ2⟩:=HQ.out.cells;have hcall:=rsamet_at HP.out.at_ HQ.out.at_;rw[sameP_self] at hcall;have HCALL:=hid hcall;clear hcall;go_wp2_with (go_at_call 12;refine HCALL.out.mono ?_;intro e x7 hx;obtain⟨rfl,hb⟩:=hx;refine Hid.out ?_);refine hid ?_;replace HB:=hid (HB.out.trans (hb.mono HB.out.size));replace HP:=hid (HP.out.ext hb);replace HQ:=hid (HQ.out.ext hb);replace HX:=hid (HX.out.ext hb);replace HI1:=hid (HI1.out.ext hb);replace HI2:=hid (HI2.out.ext hb);replace HUB:=hid (HUB.out.ext hb);clear hb HCALL;clear cP0 cP1 cP2 cQ0 cQ1 cQ2;have hcall:=awake_any x7 ((HTAB.out.on HB.out).up HB.out.size) (HGM.out.ext HB.out);have HCALL:=hid hcall;clear hcall;go_wp2_with (go_at_call 7;refine HCALL.out.mono ?_;intro e x8 hx;obtain⟨rfl,hb⟩:=hx;refine Hid.out ?_);refine hid ?_;replace HB:=hid (HB.out.trans (hb.mono HB.out.size));replace HP:=hid (HP.out.ext hb);replace HQ:=hid (HQ.out.ext hb);replace HX:=hid (HX.out.ext hb);replace HI1:=hid (HI1.out.ext hb);replace HI2:=hid (HI2.out.ext hb);replace HUB:=hid (HUB.out.ext hb);clear hb HCALL;go_wp2;go_ret;exact⟨rfl,HB.out⟩
  ·have e1:(de != 0)=true:=by simpa using h0
   clear h0;go_wp2_with (go_at_call 18;refine HCALL.out.mono ?_;intro e x4 hx;obtain⟨rfl,kq,hwq0⟩:=hx;have hwq:=hid hwq0;clear hwq0;refine Hid.out ?_);refine hid ?_;have hb:Below x3.heap.size x3 x4:=by rw[hwq.out];exact below_drewN (Below.refl _ _) kq
   replace HB:=hid (HB.out.trans (hb.mono HB.out.size));replace HX:=hid (HX.out.ext hb);replace HI1:=hid (HI1.out.ext hb);replace HI2:=hid (HI2.out.ext hb);clear hb HCALL hwq;have hcall:=awake_any x4 ((HTAB.out.on HB.out).up HB.out.size) (HGM.out.ext HB.out);have HCALL:=hid hcall;clear hcall;go_wp2_with (go_at_call 7;refine HCALL.out.mono ?_;intro e x5 hx;obtain⟨rfl,hb⟩:=hx;refine Hid.out ?_);refine hid ?_;replace HB:=hid (HB.out.trans (hb.mono HB.out.size));replace HX:=hid (HX.out.ext hb);replace HI1:=hid (HI1.out.ext hb);replace HI2:=hid (HI2.out.ext hb);clear hb HCALL;go_wp2;go_ret;exact⟨rfl,HB.out⟩
end Go.Proofs.YtlegfdllipkggaaGreatDoor
