/-
  texts RPermP RDec11: parts of the proof; conditions stand with each theorem.
-/
import Derived.Test.YtcmbdhopmncmnaaGreatDoorWG6
import Derived.Test.YtcmbdhopmncmnaaGreatDoorWG7
import Derived.Test.YtcmbdhopmncmnaaGreatDoorWG4
namespace Go.Proofs.YtcmbdhopmncmnaaGreatDoor
set_option maxRecDepth 100000
set_option linter.unusedVariables false
set_option linter.unusedSimpArgs false
theorem erase_perm {α:Type}:∀ (l:List α)(i:Nat)(h:i < l.length),l.Perm (l[i] :: l.eraseIdx i)
 | x :: l,0,_=>by simp
 | x :: l,i+1,h=>by
  have h':i < l.length:=by simpa using h
  have ih:=erase_perm l i h';rw[List.eraseIdx_cons_succ,List.getElem_cons_succ];exact ((List.perm_cons x).2 ih).trans (List.Perm.swap _ _ _)
def UT (vars:List (List Int))(out:Int)(qs:List (Int × Int))(s:Int)(rest A:List Int)(m:Nat)(v:Int):Prop:=
 ∃ i,i < m∧Con vars ((rest.getD i 0,s) :: qs)∧Tset vars out ((rest.getD i 0,s) :: qs) (rest.eraseIdx i) A v
theorem UT.out {vars:List (List Int)}{out:Int}{qs:List (Int × Int)}{s:Int}{rest A:List Int}{m:Nat}{v:Int}(h:UT vars out qs s rest A m v)(h0:0≤out):v=out:=by
 obtain⟨i,-,-,ps,-,-,-,h4⟩:=h;unfold valO at h4;rw[if_pos h0] at h4;exact h4
theorem toR_pos {T:Int→Prop}{x:Int}(h:IsMin T (toR x))(h0:0≤x):T x∧∀ v,T v→x≤v:=by
 unfold toR at h;rw[if_neg (by omega)] at h;rcases h with ⟨h,-⟩ | ⟨-,h1,h2⟩
 ·cases h
 ·exact⟨h1,h2⟩
theorem toR_mk {T:Int→Prop}{x:Int}(h0:0≤x)(h1:T x)(h2:∀ v,T v→x≤v):IsMin T (toR x):=by
 unfold toR;rw[if_neg (by omega)];exact .inr ⟨rfl,h1,h2⟩
theorem rperm_min {N:Nat}{vars:List (List Int)}{out:Int}{inn:List Int}{c:Int}(hn:∀ s ∈ inn,0≤s)(ho:-(N:Int)≤out):∀ (L:Nat)(rest bs:List Int)(qs:List (Int × Int)),
  L≤inn.length→RfN N vars bs qs→rest.length=(elL inn inn.length c L).length→(∀ e ∈ rest,-(N:Int)≤e)→(out < 0→(∃ p ∈ qs,p.1=out)∨out ∈ rest)→
  IsMin (Tset vars out qs rest (elL inn inn.length c L)) (toR (rpermP vars out inn c L rest bs))
 | 0,rest,bs,qs,_,hR,hl,he,hm=>by
  have hr:rest=[]:=List.length_eq_zero_iff.1 hl;subst hr;rw[show elL inn inn.length c 0=[] from rfl];unfold rpermP;have hmm:out < 0→∃ p ∈ qs,p.1=out:=fun h0=>(hm h0).resolve_right (by simp);have hnn:=hR.out_nn ho hmm;refine toR_mk hnn ((Tset.nil hR.con).2 ((hR.val ho hmm _).2 rfl)) fun v hv=>?_;rw[(hR.val ho hmm v).1 ((Tset.nil hR.con).1 hv)];exact Int.le_refl _
 | L+1,rest,bs,qs,hL,hR,hl,he,hm=>by
  unfold rpermP;by_cases hc:((inn.length - (L+1):Nat):Int)=c
  ·rw[if_pos hc];have hE:elL inn inn.length c (L+1)=elL inn inn.length c L:=by rw[elL,if_pos hc]
   rw[hE] at hl ⊢;exact rperm_min hn ho L rest bs qs (by omega) hR hl he hm
  ·rw[if_neg hc];obtain⟨s,hss⟩:∃ s,s=inn.getD (inn.length - (L+1)) 0:=⟨_,rfl⟩
   have hE:elL inn inn.length c (L+1)=s :: elL inn inn.length c L:=by rw[elL,if_neg hc,hss]
   rw[hE] at hl ⊢;rw[← hss];have hs0:0≤s:=by rw[hss];exact getD_mem_nn hn _
   obtain⟨A,hA⟩:∃ A,A=elL inn inn.length c L:=⟨_,rfl⟩
   rw[← hA] at hl ⊢;have ih:=rperm_min (N:=N) (vars:=vars) (inn:=inn) (c:=c) hn ho L;rw[← hA] at ih;have hget:∀ i (h:i < rest.length),rest.getD i 0=rest[i]:=fun i h=>by rw[List.getD_eq_getElem?_getD,List.getElem?_eq_getElem h];rfl
   have key:∀ m:Nat,m≤rest.length→IsMin (UT vars out qs s rest A m) (toR ((List.range m).foldl (rpStep vars out s rest bs (rpermP vars out inn c L)) (-1,false)).1)∧
     (((List.range m).foldl (rpStep vars out s rest bs (rpermP vars out inn c L)) (-1,false)).2=true→0≤((List.range m).foldl (rpStep vars out s rest bs (rpermP vars out inn c L)) (-1,false)).1∧0≤out):=by
    intro m;induction m with
    | zero=>
     intro _;exact⟨IsMin.none fun v ⟨i,hi,_⟩=>absurd hi (Nat.not_lt_zero _),fun h=>by cases h⟩
    | succ m ih2=>
     intro hm';obtain⟨i1,i2⟩:=ih2 (by omega);rw[List.range_succ,List.foldl_append,List.foldl_cons,List.foldl_nil];obtain⟨x,hx⟩:∃ x,x=(List.range m).foldl (rpStep vars out s rest bs (rpermP vars out inn c L)) (-1,false):=⟨_,rfl⟩
     rw[← hx] at i1 i2 ⊢;unfold rpStep;by_cases h1:x.2=true
     ·rw[if_pos h1];obtain⟨j1,j2⟩:=i2 h1;obtain⟨k1,k2⟩:=toR_pos i1 j1;have hxo:=k1.out j2;refine⟨toR_mk j1 ?_ fun v hv=>?_,i2⟩
      ·obtain⟨i,hi,h⟩:=k1;exact⟨i,by omega,h⟩
      ·rw[hv.out j2,hxo];exact Int.le_refl _
     ·rw[if_neg h1];have hmr:m < rest.length:=by omega
      have hfit:=rfit_step hR (he _ (List.getElem_mem hmr)) hs0;rw[← hget m hmr] at hfit;by_cases h2:rfitsP vars bs (rest.getD m 0) s=false
      ·rw[if_pos (.inl h2)];refine⟨i1.congr fun v=>⟨fun ⟨i,hi,h⟩=>⟨i,by omega,h⟩,fun ⟨i,hi,h⟩=>?_⟩,i2⟩;rcases Nat.lt_succ_iff_lt_or_eq.1 hi with hi | rfl
       ·exact⟨i,hi,h⟩
       ·have:=hfit.1.2 h.1;rw[h2] at this;cases this
      ·by_cases h3:rest.getD m 0 ∈ rest.take m
       ·rw[if_pos (.inr h3)];obtain⟨j,hj,e⟩:=List.getElem_of_mem h3;rw[List.length_take] at hj;have hjm:j < m:=by omega
        rw[List.getElem_take] at e;refine⟨i1.congr fun v=>⟨fun ⟨i,hi,h⟩=>⟨i,by omega,h⟩,fun ⟨i,hi,h⟩=>?_⟩,i2⟩;rcases Nat.lt_succ_iff_lt_or_eq.1 hi with hi | rfl
        ·exact⟨i,hi,h⟩
        ·refine⟨j,hjm,?_⟩;have hje:rest.getD j 0=rest.getD i 0:=by rw[hget j (by omega)];exact e
         rw[hje];refine⟨h.1,h.2.permE ?_⟩;have p1:=erase_perm rest j (by omega);have p2:=erase_perm rest i hmr;rw[← hget j (by omega),hje] at p1;rw[← hget i hmr] at p2;exact (List.perm_cons _).1 (p2.symm.trans p1)
       ·rw[if_neg (by rintro (h | h);exact h2 h;exact h3 h)];have h2':rfitsP vars bs (rest.getD m 0) s=true:=by
         cases h:rfitsP vars bs (rest.getD m 0) s with
         | true=>rfl
         | false=>exact absurd h h2
        have hsub:∀ e ∈ rest.eraseIdx m,e ∈ rest:=fun e h=>List.mem_of_mem_eraseIdx h;have hF:=ih (rest.eraseIdx m) (rsetP bs (rest.getD m 0) s) ((rest.getD m 0,s) :: qs) (by omega) (hfit.2 h2') (by
         rw[List.length_eraseIdx,if_pos hmr];rw[List.length_cons] at hl;omega) (fun e h=>he e (hsub e h)) (fun h0=>by
         rcases hm h0 with ⟨p,hp,hpo⟩ | h
         ·exact .inl ⟨p,List.mem_cons_of_mem _ hp,hpo⟩
         ·have:=(erase_perm rest m hmr).mem_iff.1 h;rcases List.mem_cons.1 this with h | h
          ·exact .inl ⟨(rest.getD m 0,s),by simp,by rw[h,hget m hmr]⟩
          ·exact .inr h)
        have hor:=toR_or i1 hF;refine⟨hor.congr fun v=>⟨fun h=>?_,fun ⟨i,hi,h⟩=>?_⟩,fun h=>?_⟩
        ·rcases h with ⟨i,hi,h⟩ | h
         ·exact⟨i,by omega,h⟩
         ·exact⟨m,by omega,hfit.1.1 h2',h⟩
        ·rcases Nat.lt_succ_iff_lt_or_eq.1 hi with hi | rfl
         ·exact .inl ⟨i,hi,h⟩
         ·exact .inr h.2
        ·dsimp only at h;rw[Bool.and_eq_true,decide_eq_true_eq,decide_eq_true_eq] at h;exact h
   refine (key rest.length (Nat.le_refl _)).1.congr fun v=>?_;rw[Tset.consA];constructor
   ·rintro⟨i,hi,hc',hT⟩;refine⟨rest.getD i 0,rest.eraseIdx i,?_,hc',hT⟩;rw[hget i hi];exact erase_perm rest i hi
   ·rintro⟨e,F,hE',hc',hT⟩;obtain⟨i,hi,rfl⟩:=List.getElem_of_mem (hE'.mem_iff.2 (by simp:e ∈ e :: F));rw[← hget i hi] at hE' hc' hT;refine⟨i,hi,hc',hT.permE ?_⟩;have p2:=erase_perm rest i hi;rw[← hget i hi] at p2;exact (List.perm_cons _).1 (hE'.symm.trans p2)
theorem rpermuted_min {vars:List (List Int)}{hood:List (Int × Int)}{ins:List Int}{out:Int}{inn:List Int}(hn:∀ s ∈ inn,0≤s)(he:∀ e ∈ ins,-(vars.length:Int)≤e)(ho:-(vars.length:Int)≤out)(hm:out < 0→out ∈ ins)(hl:ins.length=inn.length)(hcl:0≤ctrP hood→(ctrP hood).toNat < inn.length) :
  IsMin (PmT vars ins out inn (ctrP hood)) (toR (rpermutedP hood vars ins out inn)):=by
 unfold rpermutedP;obtain⟨c,hc⟩:∃ c,c=ctrP hood:=⟨_,rfl⟩
 rw[← hc] at hcl ⊢;have hlen:(offC ins ins.length c).length=(elL inn inn.length c inn.length).length:=by
  rw[elL_full];unfold offC;rw[List.length_map,List.length_map,hl]
 have hoff:∀ e ∈ offC ins ins.length c,-(vars.length:Int)≤e:=fun e h=>he e (offC_mem rfl h);unfold PmT ctrQ;by_cases h:0≤c
 ·rw[if_pos h,if_pos h];have hin:ins.getD c.toNat 0 ∈ ins:=by
   have:=hcl h;rw[List.getD_eq_getElem?_getD,List.getElem?_eq_getElem (by omega)];exact List.getElem_mem _
  have hs:=rfit_step (RfN.neg (N:=vars.length) (vars:=vars)) (he _ hin) (getD_mem_nn hn c.toNat);by_cases ha:rfitsP vars (List.replicate vars.length (-1)) (ins.getD c.toNat 0) (inn.getD c.toNat 0)=true
  ·rw[if_pos ha];have:=rperm_min (c:=c) hn ho inn.length (offC ins ins.length c) _ _ (Nat.le_refl _) (hs.2 ha) hlen hoff (fun h1=>by
    rcases mem_offC (c:=c) rfl (hm h1) with h2 | ⟨-,h2⟩
    ·exact .inr h2
    ·exact .inl ⟨_,List.mem_cons_self,h2.symm⟩)
   refine this.congr fun v=>?_;rw[elL_full,hl];exact⟨fun h=>⟨hs.1.1 ha,h⟩,fun h=>h.2⟩
  ·rw[if_neg ha];exact IsMin.none fun v hv=>ha (hs.1.2 hv.1)
 ·rw[if_neg h,if_neg h];have:=rperm_min (c:=c) hn ho inn.length (offC ins ins.length c) _ [] (Nat.le_refl _) (RfN.neg (N:=vars.length) (vars:=vars)) hlen hoff (fun h1=>by
    rcases mem_offC (c:=c) rfl (hm h1) with h2 | ⟨h3,-⟩
    ·exact .inr h2
    ·exact absurd h3 h)
  refine this.congr fun v=>?_;rw[elL_full,hl];exact⟨fun h=>⟨Con.nil,h⟩,fun h=>h.2⟩
theorem rdecide_eq {sym:Int}{hood:List (Int × Int)}{vars:List (List Int)}{ins:List Int}{out:Int}{inn:List Int}(hh:hoodB hood=true)(hp:permP hood sym=true)(h40:vars.length≤40)(hn:∀ s ∈ inn,0≤s)(he:∀ e ∈ ins,ElOk vars.length e)(ho:ElOk vars.length out)(hm:out < 0→out ∈ ins)(hl:ins.length=hood.length)(hi:inn.length=hood.length) :
  decideP sym hood vars ins out inn=toR (rdecideP sym hood vars ins out inn):=by
 have heN:∀ e ∈ ins,-(vars.length:Int)≤e:=fun e h=>by have:=(he e h).1;omega
 have hoN:-(vars.length:Int)≤out:=by have:=ho.1;omega
 have he40:∀ e ∈ ins,-40≤e:=fun e h=>by have:=heN e h;omega
 have ho40:-40≤out:=by omega
 have hd:=hood_nodup hh;unfold decideP rdecideP;by_cases h3:sym=3
 ·rw[if_pos h3,if_neg (by omega),if_pos h3];refine (permutedP_min hn he40 ho40 hm (by rw[hl,hi])).uniq (rpermuted_min hn heN hoN hm (by rw[hl,hi]) fun h=>?_);rcases ctr_lt15 hood with h1 | ⟨-,h2⟩
  ·omega
  ·omega
 ·rw[if_neg h3];have hc:∀ j,j < nSym sym→∀ q ∈ hood,symP (j:Int) q ∈ hood:=fun j hj=>syms_in hh hp h3 hj;have h1:=decTo_min (vars:=vars) (hood:=hood) hn he40 ho40 hm hl (nSym sym);by_cases h0:sym=0
  ·rw[if_pos h0];refine h1.uniq ((exact_min hn heN hoN hm (by rw[hl,hi])).congr fun v=>?_);have hn1:nSym sym=1:=by rw[h0];rfl
   rw[hn1];constructor
   ·intro h;refine⟨0,by omega,?_⟩;rw[show ((0:Nat):Int)=0 from rfl,turned0 hh hi];exact h
   ·rintro⟨j,hj,h⟩;obtain rfl:j=0:=by omega
    rw[show ((0:Nat):Int)=0 from rfl,turned0 hh hi] at h;exact h
  ·rw[if_neg h0,if_neg h3];have hk:nSym sym≤8:=by unfold nSym;split;omega;split <;> omega
   exact h1.uniq (rdecTo_min hn heN hoN hm hl hi hd (nSym sym) hk hc)
end Go.Proofs.YtcmbdhopmncmnaaGreatDoor
namespace Go.Proofs.YtcmbdhopmncmnaaGreatDoor
open Lib(hid)
open Go.RowKit Go.Sort Go.Maps
set_option maxRecDepth 100000
set_option linter.unusedVariables false
set_option linter.unusedSimpArgs false
theorem offC_skip {l:List Int}{k:Nat}{c:Int}(h:(k:Int)=c):offC l (k+1) c=offC l k c:=by
 unfold offC;rw[List.range_succ,List.filter_append,List.map_append,List.filter_cons_of_neg (by simp[h])]
 simp
theorem offC_step {l:List Int}{k:Nat}{c:Int}(h:(k:Int)≠c):offC l (k+1) c=offC l k c ++ [l.getD k 0]:=by
 unfold offC;rw[List.range_succ,List.filter_append,List.map_append,List.filter_cons_of_pos (by simp[h])]
 simp
theorem offC_len (l:List Int)(k:Nat)(c:Int):(offC l k c).length≤k:=by
 unfold offC;rw[List.length_map];have:=List.length_filter_le (fun (k:Nat)=>decide ((k:Int)≠c)) (List.range k);rw[List.length_range] at this;exact this
theorem OwnI.kset {I:TypeId}{w9 w:World}{base g9 v9:Nat}{A:Option Addr}{n c:Nat}{zs:List Int}{x9:Int}(h:OwnI I w base (.slice A n c) zs)(hg:g9 < base)(hr:Ints w9 A zs):Ints (w9.setCell ⟨g9,v9,none⟩ (.int .i64 x9)) A zs:=by
 obtain⟨A',c',e',-,hn⟩:=h.ints;injection e' with e1 _ _
 subst e1;have hk:Kept (fun x=>x=g9) w9 (w9.setCell ⟨g9,v9,none⟩ (.int .i64 x9)):=(Kept.refl (fun x=>x=g9) w9).setCell (p:=⟨g9,v9,none⟩) (.inl rfl) _;exact⟨(Reads.set_ne hr.1 (p:=⟨g9,v9,none⟩) (fun ad e=>by have:=hn ad e;show ad.block≠g9;omega) _).more hk.below.size,hr.2⟩
theorem rturn_sub (hood:List (Int × Int))(k:Int)(ins:List Int):∀ m e,e ∈ rturnTo hood k ins m→e ∈ ins∨e=0
 | 0,e,h=>.inr (List.mem_replicate.1 h).2
 | m+1,e,h=>by
  unfold rturnTo at h
  split at h
  ·rcases List.mem_or_eq_of_mem_set h with h | h
   ·exact rturn_sub hood k ins m e h
   ·rw[List.getD_eq_getElem?_getD] at h;cases hg:ins[m]? with
    | none=>rw[hg] at h;exact .inr h
    | some z=>rw[hg] at h;rw[h];exact .inl (List.mem_of_getElem? hg)
  ·exact rturn_sub hood k ins m e h
theorem permP_sym {ps:List (Int × Int)}{sym:Int}(h:permP ps sym=true):sym=0∨sym=1∨sym=2∨sym=3:=by
 unfold permP at h;by_cases h0:sym=0
 ·exact .inl h0
 ·by_cases h1:sym=1
  ·exact .inr (.inl h1)
  ·by_cases h2:sym=2
   ·exact .inr (.inr (.inl h2))
   ·by_cases h3:sym=3
    ·exact .inr (.inr (.inr h3))
    ·rw[if_neg h0,if_neg h1,if_neg h2,if_neg h3] at h;cases h
structure Rd9J (V:World)(tv:Value)(zv:Value)(kk:Nat)(oo:Int)(iv:Value)(nn:Nat)(tl:List Int)(ff:Int)(ee:Int)(gg:Int)(gR:Nat)(b0 b1 b2 b3 b4 b5 b6 b7 b8 b9 b10 b11 b12:Bool)(v46 v47 v48 v49 v50 v51 v52 v53 v54 v55 v56 v57 v9:Value)(w:World):Prop where
 h0:b0=true→v46=.int .i64 ff
 h1:b1=true→v47=tv
 h2:b2=true→v48=tv
 h3:b3=true→v49=.pointer (some ⟨gR,0,none⟩)
 h4:b4=true→v50=zv
 h5:b5=true→v51=.int .i64 (kk:Int)
 h7:b7=true→v53=.pointer (some ⟨gR,1,none⟩)
 h8:b8=true→v54=.int .i64 oo
 h9:b9=true→v55=iv
 h10:b10=true→v56=.int .i64 ee
 h11:b11=true→v57=.int .i64 gg
 h12:b12=true→v9=.int .i64 gg
 below:Below V.heap.size V w
 x6:b6=true→∃ A9 c9,v52=.slice A9 nn c9∧Ints w A9 tl
 w9:b12=false→v9=.int .i64 ff
 q0:b12=true→b0=true
set_option maxHeartbeats 32000000 in
theorem rdec_any (hA:Option Addr)(hc:Nat)(vA:Option Addr)(vc:Nat)(rA:Option Addr)(rc:Nat)(t:TabH)(i:Nat)(hil:i < t.rs.length)(iA:Option Addr)(ic:Nat)(inn:List Int)(w:World)(hT:TabR w hA vA rA t)(hr:rightTab t.tab=true)(hi:Ints w iA inn)(hl:inn.length=t.hood.length)(hst:∀ s ∈ inn,0≤s∧s < t.st) :
  Calls Tryz.prog 44 #[tabV hA hc vA vc rA rc t,.int .i64 (i:Int),.slice iA inn.length ic] w fun en w'=>en=.returned (.tuple #[.int .i64 (rowD t.tab inn (t.rs[i]'hil).rw_).1,.bool (rowD t.tab inn (t.rs[i]'hil).rw_).2])∧Below w.heap.size w w':=by
 obtain⟨q1,q2,q3,q4,q5,q6,q7⟩:=rightTab_parts hr;have hv:t.tab.vars.length=t.vs.length:=by unfold TabH.tab;simp
 rw[hv] at q4;have hmem:(t.rs[i]'hil).rw_ ∈ t.tab.rows:=by
  unfold TabH.tab;exact List.mem_map.2 ⟨t.rs[i]'hil,List.getElem_mem hil,rfl⟩
 have hok:=q7 _ hmem;obtain⟨k1,k2,k3⟩:=okRow_parts (by rw[hv];exact q4) hok;rw[hv] at k2 k3;have hom:(t.rs[i]'hil).out < 0→(t.rs[i]'hil).out ∈ (t.rs[i]'hil).zs:=by
  unfold okRow at hok;simp only[Bool.and_eq_true,Bool.or_eq_true,decide_eq_true_eq] at hok;intro h0;rcases hok.1.2 with h | h
  ·have:(t.rs[i]'hil).rw_.2=(t.rs[i]'hil).out:=rfl;omega
  ·exact h
 have heq:rowD t.tab inn (t.rs[i]'hil).rw_=toR (rdecideP t.sym t.hood (t.vs.map Vh.zs) (t.rs[i]'hil).zs (t.rs[i]'hil).out inn):=by
  unfold rowD;exact rdecide_eq q2 q3 (by rw[hv];exact q4) (fun s hs=>(hst s hs).1) (by rw[hv];exact k3) (by rw[hv];exact k2) hom k1 hl
 rw[heq];have hln:=hoodB_len q2;have hsy:=permP_sym q3;obtain⟨rb,ro,ea,-,hca,hda,hiz⟩:=hT.rows.at_ hil;obtain⟨xh,hxh⟩:∃ z,z=t.rs[i]'hil:=⟨_,rfl⟩
 rw[← hxh] at hca hda hiz k1 k2 k3 hom ⊢;obtain⟨zA,zc,ins,out⟩:=xh;have k1':ins.length=t.hood.length:=k1;have k2':ElOk t.vs.length out:=k2;have k3':∀ e ∈ ins,ElOk t.vs.length e:=k3;dsimp only at hca hda hiz hom ⊢;obtain⟨st,sym,hood,vs,rs⟩:=t;subst ea;unfold tabV;dsimp only at hT hl hil k1' k2' k3' hln hca hda hiz q2 q3 q4 hsy hst ⊢;have hh9:hood.length≤9223372036854775807:=hT.hood.le;have hr9:rs.length≤9223372036854775807:=hT.rows.le;have hv9:vs.length≤9223372036854775807:=hT.vars.le;have hi9:inn.length≤9223372036854775807:=hi.le;have hz9:ins.length≤9223372036854775807:=hiz.le;obtain⟨w0,hw0⟩:∃ w0,w0=w.alloc (.cells #[.int .i64 st,.int .i64 sym,.slice hA hood.length hc,.slice vA vs.length vc,.slice (some ⟨rb,ro,none⟩) rs.length rc] 26):=⟨_,rfl⟩
 have hb0:Below w.heap.size w w0:=by rw[hw0];exact below_new _ _
 have p0:Blk w0 w.heap.size 26 #[.int .i64 st,.int .i64 sym,.slice hA hood.length hc,.slice vA vs.length vc,.slice (some ⟨rb,ro,none⟩) rs.length rc]:=by rw[hw0];exact Blk.new _ _ _
 obtain⟨wb,hwb⟩:∃ W,W=w0.alloc (.cells #[.slice zA ins.length zc,.int .i64 out] 48):=⟨_,rfl⟩
 have hbb:Below w0.heap.size w0 wb:=by rw[hwb];exact below_new _ _
 have qb:Blk wb w0.heap.size 48 #[.slice zA ins.length zc,.int .i64 out]:=by rw[hwb];exact Blk.new _ _ _
 obtain⟨gT,hgT⟩:∃ g,g=w.heap.size:=⟨_,rfl⟩
 obtain⟨gR,hgR⟩:∃ g,g=w0.heap.size:=⟨_,rfl⟩
 rw[← hgT] at p0;rw[← hgR] at qb;have HB:=hid (btr hb0 hbb);have HP:=hid (p0.below hbb p0.lt);have HQ:=hid qb;have HT:=hid ((hT.ext hb0).ext hbb);have HI:=hid ((hi.ext hb0).ext hbb);have HZ:=hid ((hiz.ext hb0).ext hbb);have HW:=hid (And.intro hw0 (And.intro hgT (And.intro hwb hgR)));have HL:=hid (And.intro hl (And.intro k1' (And.intro (show hood.length≤25 from hln.2) (And.intro q2 q4))));have HE:=hid (And.intro k3' (And.intro k2' (And.intro hom hst)));have hca0:=(hb0.cell (p:=⟨rb,ro+i*2,none⟩) (World.block_lt_of_cell? _ _ hca)).trans hca;have hda0:=(hb0.cell (p:=⟨rb,ro+i*2+1,none⟩) (World.block_lt_of_cell? _ _ hda)).trans hda;obtain⟨vars,hvars⟩:∃ v,v=vs.map Vh.zs:=⟨_,rfl⟩
 rw[← hvars];have HVS:=hid hvars;have x4:=p0.cell_ 4 (.slice (some ⟨rb,ro,none⟩) rs.length rc) rfl;clear hb0 p0 hbb qb hw0 hwb hgT hgR hT hi hiz hl k1 k2 k3 k1' k2' k3' hln q1 q2 q3 q4 q5 q6 q7 hv hmem hok hom heq hxh hca hda hr hst hvars;go_enter Tryz.func44,Tryz.ntmps44;go_upto_region 1 with fail
 rw[← HW.out.1,← HW.out.2.1];go_upto_region 2 with fail
 rw[← HW.out.2.2.1,← HW.out.2.2.2];clear hca0 hda0 x4;rcases hsy with rfl | rfl | rfl | rfl
 ·obtain⟨f,hf0⟩:∃ f,f=exactP vars ins out inn:=⟨_,rfl⟩
  have HRES:Hid (rdecideP 0 hood vars ins out inn=f):=hid (by rw[hf0];unfold rdecideP;rw[if_pos rfl]);have hcall:=rexact_any hA hc vA vc (some ⟨rb,ro,none⟩) rc ⟨st,0,hood,vs,rs⟩ zA zc ins out iA ic inn wb HT.out.vars HL.out.2.2.2.2 HZ.out HI.out (by rw[HL.out.2.1,HL.out.1]) (by rw[HL.out.2.1];exact HL.out.2.2.1) HE.out.1 HE.out.2.1;unfold tabV at hcall;dsimp only at hcall;rw[← HVS.out,← hf0] at hcall;have HCALL:=hid hcall;have x0:=HP.out.cell_ 0 (.int .i64 st) rfl;have x1:=HP.out.cell_ 1 (.int .i64 0) rfl;have x2:=HP.out.cell_ 2 (.slice hA hood.length hc) rfl;have x3:=HP.out.cell_ 3 (.slice vA vs.length vc) rfl;have x4:=HP.out.cell_ 4 (.slice (some ⟨rb,ro,none⟩) rs.length rc) rfl;have r0:=HQ.out.cell_ 0 (.slice zA ins.length zc) rfl;have r1:=HQ.out.cell_ 1 (.int .i64 out) rfl;clear hcall hf0;go_wp2_with (go_at_call 78;refine HCALL.out.mono ?_;rintro en w1 ⟨rfl,hb1⟩;refine Hid.out ?_);refine hid ?_;have HB1:=hid hb1;clear hb1 x0 x1 x2 x3 x4 r0 r1 HCALL;have x1:=(HP.out.below HB1.out HP.out.lt).cell_ 1 (.int .i64 0) rfl;by_cases hf:f < 0
  ·have df:decide (f < 0)=true:=decide_eq_true hf;have HF:Hid (toR f=(0,false)):=hid (if_pos hf);clear hf;go_wp2;go_ret2;exact⟨by rw[HRES.out,HF.out] <;> rfl,btr HB.out HB1.out⟩
  ·have df:decide (f < 0)=false:=decide_eq_false hf;have HF:Hid (toR f=(f,true)):=hid (if_neg hf);clear hf;go_wp2;go_ret2;exact⟨by rw[HRES.out,HF.out] <;> rfl,btr HB.out HB1.out⟩
 ·have HRES:Hid (rdecideP 1 hood vars ins out inn=rdecTo hood vars ins out inn 4):=hid (by unfold rdecideP;rw[if_neg (by decide),if_neg (by decide)];rfl);have x1:=HP.out.cell_ 1 (.int .i64 1) rfl;go_upto_region 7 with fail
  clear x1;go_loopw [9,10] (fun fv kv wr=>∃ k:Nat,k≤4∧kv=.int .i64 k∧fv=.int .i64 (rdecTo hood vars ins out inn k)∧Hid (Below wb.heap.size wb wr)) (fun _ kv _=>4 - (intOf kv).toNat)
  case atStart=>exact⟨0,Nat.zero_le _,rfl,rfl,hid (Below.refl _ _)⟩
  case round=>
   obtain⟨k,hk,rfl,rfl,HBW⟩:=hrel;have HPB:=hid (HP.out.below HBW.out HP.out.lt);have HQB:=hid (HQ.out.below HBW.out HQ.out.lt);have x1:=HPB.out.cell_ 1 (.int .i64 1) rfl;obtain⟨f,hff⟩:∃ f,f=rdecTo hood vars ins out inn k:=⟨_,rfl⟩
   rw[← hff];by_cases hkl:k < 4
   ·have HK:=hid hkl;have hwk:wrap64 ((k:Int)+1)=(k:Int)+1:=by unfold wrap64;omega
    have HWK:=hid hwk;have d1:decide ((k:Int) < 4)=true:=decide_eq_true (by omega);obtain⟨tl,htl⟩:∃ l,l=rturnTo hood (k:Int) ins ins.length:=⟨_,rfl⟩
    have htll:tl.length=ins.length:=by rw[htl,rturn_len]
    obtain⟨ex,hex⟩:∃ x,x=exactP vars tl out inn:=⟨_,rfl⟩
    obtain⟨f2,hf2⟩:∃ x,x=leastP f ex:=⟨_,rfl⟩
    have HF2:Hid (rdecTo hood vars ins out inn (k+1)=f2):=hid (by rw[rdecTo,hf2,hff,hex,htl]);have hmt:∀ e ∈ tl,ElOk vs.length e:=fun e he=>by
     rw[htl] at he;rcases rturn_sub hood (k:Int) ins ins.length e he with h | h
     ·exact HE.out.1 e h
     ·rw[h];exact⟨fun h=>absurd h (by decide),by decide⟩
    have HTU:Hid (∀ W,Below wr.heap.size wr W→Calls Tryz.prog 80 #[.agg #[.int .i64 st,.int .i64 1,.slice hA hood.length hc,.slice vA vs.length vc,.slice (some ⟨rb,ro,none⟩) rs.length rc],.slice zA ins.length zc,.int .i64 (k:Int)] W fun en w'=>∃ A9 c9,en=.returned (.slice A9 ins.length c9)∧Ints w' A9 tl∧Below W.heap.size W w'):=hid (fun W hW=>by
     have h:=rturned_any hA hc vA vc (some ⟨rb,ro,none⟩) rc ⟨st,1,hood,vs,rs⟩ zA zc ins k W ((HT.out.hood.ext HBW.out).ext hW) ((HZ.out.ext HBW.out).ext hW) HL.out.2.1 HL.out.2.2.2.1;refine h.mono fun en w' ⟨v,h1,h2,h3⟩=>?_;dsimp only at h2;rw[← htl] at h2;obtain⟨A9,c9,e9,h4,-⟩:=h2.ints;exact⟨A9,c9,by rw[h1,e9,htll],h4,h3⟩)
    have HEX:Hid (∀ W A9 c9,Below wr.heap.size wr W→Ints W A9 tl→Calls Tryz.prog 78 #[.agg #[.int .i64 st,.int .i64 1,.slice hA hood.length hc,.slice vA vs.length vc,.slice (some ⟨rb,ro,none⟩) rs.length rc],.slice A9 ins.length c9,.int .i64 out,.slice iA inn.length ic] W fun en w'=>en=.returned (.int .i64 ex)∧Below W.heap.size W w'):=hid (fun W A9 c9 hW hI=>by
     have h:=rexact_any hA hc vA vc (some ⟨rb,ro,none⟩) rc ⟨st,1,hood,vs,rs⟩ A9 c9 tl out iA ic inn W ((HT.out.vars.ext HBW.out).ext hW) HL.out.2.2.2.2 hI ((HI.out.ext HBW.out).ext hW) (by rw[htll,HL.out.2.1,HL.out.1]) (by rw[htll,HL.out.2.1];exact HL.out.2.2.1) hmt HE.out.2.1;unfold tabV at h;dsimp only at h;rw[← HVS.out,← hex,htll] at h;exact h)
    have HLE:Hid (∀ W,Calls Tryz.prog 79 #[.int .i64 f,.int .i64 ex] W fun en w'=>en=.returned (.int .i64 f2)∧Below W.heap.size W w'):=hid (fun W=>by
     rw[hf2];exact (rleast_any f ex W).mono fun _ _ h=>⟨h.1,by rw[h.2];exact Below.refl _ _⟩)
    clear hk hkl hwk hff htl htll hex hf2 hmt;go_upto_region 9 with fail
    clear x1 d1;refine wp_region_J (by kernel_rfl) (fun listed act w'=>∃ b0 b1 b2 b3 b4 b5 b6 b7 b8 b9 b10 b11 b12 v46 v47 v48 v49 v50 v51 v52 v53 v54 v55 v56 v57 v9,listed=#[b0,b1,b2,b3,b4,b5,b6,b7,b8,b9,b10,b11,b12]∧act=Act.mk #[.agg #[.int .i64 st,.int .i64 1,.slice hA hood.length hc,.slice vA vs.length vc,.slice (some ⟨rb,ro,none⟩) rs.length rc],.int .i64 ↑i,.slice iA inn.length ic,.pointer (some ⟨gT,0,none⟩),undef,undef,.int .i64 0,.bool false,.pointer (some ⟨gR,0,none⟩),v9,.int .i64 ↑k,undef,undef,undef,undef,undef,.pointer (some ⟨gT,4,none⟩),.slice (some ⟨rb,ro,none⟩) rs.length rc,.int .i64 ↑i,.pointer (some ⟨rb,ro+i*2,none⟩),.agg #[.slice zA ins.length zc,.int .i64 out],.pointer (some ⟨gT,1,none⟩),.int .i64 1,.bool false,undef,undef,undef,undef,undef,undef,undef,.pointer (some ⟨gT,1,none⟩),.int .i64 1,.bool true,.bool true,undef,undef,undef,.bool true,.int .i64 ↑k,.pointer (some ⟨gT,1,none⟩),.int .i64 1,.int .i64 4,.bool true,u44,u45,v46,v47,v48,v49,v50,v51,v52,v53,v54,v55,v56,v57,undef,undef,undef,undef,undef,undef,undef,undef,undef,undef,undef,undef,undef,undef,undef,undef,undef,undef,undef,undef,undef,undef,undef,undef,undef,undef,undef,undef,undef,undef,undef,undef,undef,undef,undef,undef,undef,undef,undef,undef,undef,undef,undef,undef,undef,undef,undef,undef,undef,undef,undef,undef,undef,undef,undef,undef,undef,undef,undef,undef,undef,undef,undef,undef,undef,undef,undef,undef,undef,undef,undef,undef,undef,undef,undef,undef,undef,undef,undef,undef] []∧Rd9J wr (.agg #[.int .i64 st,.int .i64 1,.slice hA hood.length hc,.slice vA vs.length vc,.slice (some ⟨rb,ro,none⟩) rs.length rc]) (.slice zA ins.length zc) (k) (out) (.slice iA inn.length ic) (ins.length) (tl) (f) (ex) (f2) (gR) b0 b1 b2 b3 b4 b5 b6 b7 b8 b9 b10 b11 b12 v46 v47 v48 v49 v50 v51 v52 v53 v54 v55 v56 v57 v9 w') ?_ ?_ ?_
    ·exact (e_8 (e_8 (e_8 (e_2 ⟨rfl,rfl,(by constructor;(case below=>exact ((Below.refl _ wr).drew));(case w9=>exact (fun _=>rfl));all_goals simp)⟩))))
    ·rintro i listed act w' hi ⟨b0,b1,b2,b3,b4,b5,b6,b7,b8,b9,b10,b11,b12,v46,v47,v48,v49,v50,v51,v52,v53,v54,v55,v56,v57,v9,rfl,rfl,H⟩;have hi16:i < 13:=by
      obtain⟨-,o,ho,-⟩:=mem_ready.1 hi;exact (Array.getElem?_eq_some_iff.1 ho).1
     obtain rfl | rfl | rfl | rfl | rfl | rfl | rfl | rfl | rfl | rfl | rfl | rfl | rfl:i=0∨i=1∨i=2∨i=3∨i=4∨i=5∨i=6∨i=7∨i=8∨i=9∨i=10∨i=11∨i=12:=by omega
     all_goals simp[mem_ready,Region.binds] at hi
     ·have h12:b12=false:=by
       cases hb:b12 with
       | false=>rfl
       | true=>exact absurd (H.q0 hb) (by simp[hi])
      obtain rfl:=H.w9 h12;refine wpOp_hidden rfl fun K hK=>?_;go_wp2;refine OnlyN.mk (hK.out _ _ (e_8 (e_8 (e_8 (e_2 ⟨rfl,rfl,{ H with h0:=fun _=>rfl,q0:=fun _=>rfl }⟩)))))
     ·have hB:=H.below;have hcc:=HPB.out.below hB HPB.out.lt;have cc0:=hcc.cell_ 0 (.int .i64 st) rfl;have cc1:=hcc.cell_ 1 (.int .i64 1) rfl;have cc2:=hcc.cell_ 2 (.slice hA hood.length hc) rfl;have cc3:=hcc.cell_ 3 (.slice vA vs.length vc) rfl;have cc4:=hcc.cell_ 4 (.slice (some ⟨rb,ro,none⟩) rs.length rc) rfl;clear hcc;clear hB;refine wpOp_hidden rfl fun K hK=>?_;go_wp2;refine OnlyN.mk (hK.out _ _ (e_8 (e_8 (e_8 (e_2 ⟨rfl,rfl,{ H with h1:=fun _=>rfl }⟩)))))
     ·have hB:=H.below;have hcc:=HPB.out.below hB HPB.out.lt;have cc0:=hcc.cell_ 0 (.int .i64 st) rfl;have cc1:=hcc.cell_ 1 (.int .i64 1) rfl;have cc2:=hcc.cell_ 2 (.slice hA hood.length hc) rfl;have cc3:=hcc.cell_ 3 (.slice vA vs.length vc) rfl;have cc4:=hcc.cell_ 4 (.slice (some ⟨rb,ro,none⟩) rs.length rc) rfl;clear hcc;clear hB;refine wpOp_hidden rfl fun K hK=>?_;go_wp2;refine OnlyN.mk (hK.out _ _ (e_8 (e_8 (e_8 (e_2 ⟨rfl,rfl,{ H with h2:=fun _=>rfl }⟩)))))
     ·refine wpOp_hidden rfl fun K hK=>?_;go_wp2;refine OnlyN.mk (hK.out _ _ (e_8 (e_8 (e_8 (e_2 ⟨rfl,rfl,{ H with h3:=fun _=>rfl }⟩)))))
     ·obtain rfl:=H.h3 (by simp[hi]);have hB:=H.below;have cc0:=(HQB.out.below hB HQB.out.lt).cell_ 0 (.slice zA ins.length zc) rfl;clear hB;refine wpOp_hidden rfl fun K hK=>?_;go_wp2;refine OnlyN.mk (hK.out _ _ (e_8 (e_8 (e_8 (e_2 ⟨rfl,rfl,{ H with h4:=fun _=>rfl }⟩)))))
     ·refine wpOp_hidden rfl fun K hK=>?_;go_wp2;refine OnlyN.mk (hK.out _ _ (e_8 (e_8 (e_8 (e_2 ⟨rfl,rfl,{ H with h5:=fun _=>rfl }⟩)))))
     ·obtain rfl:=H.h2 (by simp[hi]);obtain rfl:=H.h4 (by simp[hi]);obtain rfl:=H.h5 (by simp[hi]);have hB:=H.below;have HC5:=hid (HTU.out w' hB);have HBW:=hid hB;clear hB;refine wpOp_hidden rfl fun K hK=>?_;go_wp2_with (go_at_call 80;refine HC5.out.mono ?_;rintro en w9 ⟨A9,c9,rfl,hi9,hb9⟩;refine Hid.out ?_);refine hid ?_;have HI9:=hid hi9;clear HC5 hi9;have HB9:=hid hb9;have HBN:=hid (HBW.out.trans (hb9.mono HBW.out.size));clear hb9;go_wp2;refine OnlyN.mk (hK.out _ _ (e_8 (e_8 (e_8 (e_2 ⟨rfl,rfl,{ H with below:=HBN.out,x6:=fun _=>⟨A9,c9,rfl,HI9.out⟩ }⟩)))))
     ·refine wpOp_hidden rfl fun K hK=>?_;go_wp2;refine OnlyN.mk (hK.out _ _ (e_8 (e_8 (e_8 (e_2 ⟨rfl,rfl,{ H with h7:=fun _=>rfl }⟩)))))
     ·obtain rfl:=H.h7 (by simp[hi]);have hB:=H.below;have cc1:=(HQB.out.below hB HQB.out.lt).cell_ 1 (.int .i64 out) rfl;clear hB;refine wpOp_hidden rfl fun K hK=>?_;go_wp2;refine OnlyN.mk (hK.out _ _ (e_8 (e_8 (e_8 (e_2 ⟨rfl,rfl,{ H with h8:=fun _=>rfl }⟩)))))
     ·refine wpOp_hidden rfl fun K hK=>?_;go_wp2;refine OnlyN.mk (hK.out _ _ (e_8 (e_8 (e_8 (e_2 ⟨rfl,rfl,{ H with h9:=fun _=>rfl }⟩)))))
     ·obtain rfl:=H.h1 (by simp[hi]);obtain rfl:=H.h8 (by simp[hi]);obtain rfl:=H.h9 (by simp[hi]);have hB:=H.below;obtain⟨A5,c5,e5,hi5⟩:=H.x6 (by simp[hi]);subst e5;have HC5:=hid (HEX.out w' A5 c5 hB hi5);have HX5:=hid hi5;clear hi5;have HBW:=hid hB;clear hB;refine wpOp_hidden rfl fun K hK=>?_;go_wp2_with (go_at_call 78;refine HC5.out.mono ?_;rintro en w9 ⟨rfl,hb9⟩;refine Hid.out ?_);refine hid ?_;clear HC5;have HB9:=hid hb9;have HBN:=hid (HBW.out.trans (hb9.mono HBW.out.size));clear hb9;go_wp2;refine OnlyN.mk (hK.out _ _ (e_8 (e_8 (e_8 (e_2 ⟨rfl,rfl,{ H with h10:=fun _=>rfl,below:=HBN.out,x6:=fun h=>(H.x6 h).imp fun A9 h=>h.imp fun c9 h=>⟨h.1,h.2.ext HB9.out⟩ }⟩)))))
     ·obtain rfl:=H.h0 (by simp[hi]);obtain rfl:=H.h10 (by simp[hi]);have hB:=H.below;have HC5:=hid (HLE.out w');have HBW:=hid hB;clear hB;refine wpOp_hidden rfl fun K hK=>?_;go_wp2_with (go_at_call 79;refine HC5.out.mono ?_;rintro en w9 ⟨rfl,hb9⟩;refine Hid.out ?_);refine hid ?_;clear HC5;have HB9:=hid hb9;have HBN:=hid (HBW.out.trans (hb9.mono HBW.out.size));clear hb9;go_wp2;refine OnlyN.mk (hK.out _ _ (e_8 (e_8 (e_8 (e_2 ⟨rfl,rfl,{ H with h11:=fun _=>rfl,below:=HBN.out,x6:=fun h=>(H.x6 h).imp fun A9 h=>h.imp fun c9 h=>⟨h.1,h.2.ext HB9.out⟩ }⟩)))))
     ·obtain rfl:=H.h11 (by simp[hi]);refine wpOp_hidden rfl fun K hK=>?_;go_wp2;refine OnlyN.mk (hK.out _ _ (e_8 (e_8 (e_8 (e_2 ⟨rfl,rfl,{ H with h12:=fun _=>rfl,w9:=fun h=>(by cases h),q0:=fun _=>(by simp[hi]) }⟩)))))
    ·rintro listed act w' hr ⟨b0,b1,b2,b3,b4,b5,b6,b7,b8,b9,b10,b11,b12,v46,v47,v48,v49,v50,v51,v52,v53,v54,v55,v56,v57,v9,rfl,rfl,H⟩;have hn:=List.eq_nil_iff_forall_not_mem.1 hr;have r0:=hn 0;simp[mem_ready,Region.binds] at r0;subst r0;have r1:=hn 1;simp[mem_ready,Region.binds] at r1;subst r1;have r2:=hn 2;simp[mem_ready,Region.binds] at r2;subst r2;have r3:=hn 3;simp[mem_ready,Region.binds] at r3;subst r3;have r4:=hn 4;simp[mem_ready,Region.binds] at r4;subst r4;have r5:=hn 5;simp[mem_ready,Region.binds] at r5;subst r5;have r6:=hn 6;simp[mem_ready,Region.binds] at r6;subst r6;have r7:=hn 7;simp[mem_ready,Region.binds] at r7;subst r7;have r8:=hn 8;simp[mem_ready,Region.binds] at r8;subst r8;have r9:=hn 9;simp[mem_ready,Region.binds] at r9;subst r9;have r10:=hn 10;simp[mem_ready,Region.binds] at r10;subst r10;have r11:=hn 11;simp[mem_ready,Region.binds] at r11;subst r11;have r12:=hn 12;simp[mem_ready,Region.binds] at r12;subst r12;try dsimp only
     obtain⟨A5,c5,e5,-⟩:=H.x6 rfl;obtain rfl:=H.h12 rfl;have HB6:=hid (HBW.out.trans (H.below.mono HBW.out.size));obtain⟨w6,rfl⟩:∃ w6:World,w6=w':=⟨_,rfl⟩
     clear H hr hn e5;go_wp2;go_roundw
     case rel=>exact⟨k+1,HK.out,(by first | rfl | (rw[HWK.out];rfl)),(by rw[HF2.out]),HB6⟩
     case measure=>(try rw[HWK.out]);exact meas_step HK.out
   ·obtain rfl:k=4:=Nat.le_antisymm hk (Nat.le_of_not_lt hkl);have d1:decide ((((4:Nat):Int)) < 4)=false:=by decide
    have HR2:Hid (rdecideP 1 hood vars ins out inn=f):=hid (by rw[HRES.out,hff]);clear hk hkl hff HRES;have HRES:=HR2;clear HR2;by_cases hf:f < 0
    ·have df:decide (f < 0)=true:=decide_eq_true hf;have HF:Hid (toR f=(0,false)):=hid (if_pos hf);clear hf;go_wp2;go_ret2;exact⟨by rw[HRES.out,HF.out] <;> rfl,btr HB.out HBW.out⟩
    ·have df:decide (f < 0)=false:=decide_eq_false hf;have HF:Hid (toR f=(f,true)):=hid (if_neg hf);clear hf;go_wp2;go_ret2;exact⟨by rw[HRES.out,HF.out] <;> rfl,btr HB.out HBW.out⟩
 ·have HRES:Hid (rdecideP 2 hood vars ins out inn=rdecTo hood vars ins out inn 8):=hid (by unfold rdecideP;rw[if_neg (by decide),if_neg (by decide)];rfl);have x1:=HP.out.cell_ 1 (.int .i64 2) rfl;go_upto_region 7 with fail
  clear x1;go_loopw [9,10] (fun fv kv wr=>∃ k:Nat,k≤8∧kv=.int .i64 k∧fv=.int .i64 (rdecTo hood vars ins out inn k)∧Hid (Below wb.heap.size wb wr)) (fun _ kv _=>8 - (intOf kv).toNat)
  case atStart=>exact⟨0,Nat.zero_le _,rfl,rfl,hid (Below.refl _ _)⟩
  case round=>
   obtain⟨k,hk,rfl,rfl,HBW⟩:=hrel;have HPB:=hid (HP.out.below HBW.out HP.out.lt);have HQB:=hid (HQ.out.below HBW.out HQ.out.lt);have x1:=HPB.out.cell_ 1 (.int .i64 2) rfl;obtain⟨f,hff⟩:∃ f,f=rdecTo hood vars ins out inn k:=⟨_,rfl⟩
   rw[← hff];by_cases hkl:k < 8
   ·have HK:=hid hkl;have hwk:wrap64 ((k:Int)+1)=(k:Int)+1:=by unfold wrap64;omega
    have HWK:=hid hwk;have d1:decide ((k:Int) < 8)=true:=decide_eq_true (by omega);obtain⟨tl,htl⟩:∃ l,l=rturnTo hood (k:Int) ins ins.length:=⟨_,rfl⟩
    have htll:tl.length=ins.length:=by rw[htl,rturn_len]
    obtain⟨ex,hex⟩:∃ x,x=exactP vars tl out inn:=⟨_,rfl⟩
    obtain⟨f2,hf2⟩:∃ x,x=leastP f ex:=⟨_,rfl⟩
    have HF2:Hid (rdecTo hood vars ins out inn (k+1)=f2):=hid (by rw[rdecTo,hf2,hff,hex,htl]);have hmt:∀ e ∈ tl,ElOk vs.length e:=fun e he=>by
     rw[htl] at he;rcases rturn_sub hood (k:Int) ins ins.length e he with h | h
     ·exact HE.out.1 e h
     ·rw[h];exact⟨fun h=>absurd h (by decide),by decide⟩
    have HTU:Hid (∀ W,Below wr.heap.size wr W→Calls Tryz.prog 80 #[.agg #[.int .i64 st,.int .i64 2,.slice hA hood.length hc,.slice vA vs.length vc,.slice (some ⟨rb,ro,none⟩) rs.length rc],.slice zA ins.length zc,.int .i64 (k:Int)] W fun en w'=>∃ A9 c9,en=.returned (.slice A9 ins.length c9)∧Ints w' A9 tl∧Below W.heap.size W w'):=hid (fun W hW=>by
     have h:=rturned_any hA hc vA vc (some ⟨rb,ro,none⟩) rc ⟨st,2,hood,vs,rs⟩ zA zc ins k W ((HT.out.hood.ext HBW.out).ext hW) ((HZ.out.ext HBW.out).ext hW) HL.out.2.1 HL.out.2.2.2.1;refine h.mono fun en w' ⟨v,h1,h2,h3⟩=>?_;dsimp only at h2;rw[← htl] at h2;obtain⟨A9,c9,e9,h4,-⟩:=h2.ints;exact⟨A9,c9,by rw[h1,e9,htll],h4,h3⟩)
    have HEX:Hid (∀ W A9 c9,Below wr.heap.size wr W→Ints W A9 tl→Calls Tryz.prog 78 #[.agg #[.int .i64 st,.int .i64 2,.slice hA hood.length hc,.slice vA vs.length vc,.slice (some ⟨rb,ro,none⟩) rs.length rc],.slice A9 ins.length c9,.int .i64 out,.slice iA inn.length ic] W fun en w'=>en=.returned (.int .i64 ex)∧Below W.heap.size W w'):=hid (fun W A9 c9 hW hI=>by
     have h:=rexact_any hA hc vA vc (some ⟨rb,ro,none⟩) rc ⟨st,2,hood,vs,rs⟩ A9 c9 tl out iA ic inn W ((HT.out.vars.ext HBW.out).ext hW) HL.out.2.2.2.2 hI ((HI.out.ext HBW.out).ext hW) (by rw[htll,HL.out.2.1,HL.out.1]) (by rw[htll,HL.out.2.1];exact HL.out.2.2.1) hmt HE.out.2.1;unfold tabV at h;dsimp only at h;rw[← HVS.out,← hex,htll] at h;exact h)
    have HLE:Hid (∀ W,Calls Tryz.prog 79 #[.int .i64 f,.int .i64 ex] W fun en w'=>en=.returned (.int .i64 f2)∧Below W.heap.size W w'):=hid (fun W=>by
     rw[hf2];exact (rleast_any f ex W).mono fun _ _ h=>⟨h.1,by rw[h.2];exact Below.refl _ _⟩)
    clear hk hkl hwk hff htl htll hex hf2 hmt;go_upto_region 9 with fail
    clear x1 d1;refine wp_region_J (by kernel_rfl) (fun listed act w'=>∃ b0 b1 b2 b3 b4 b5 b6 b7 b8 b9 b10 b11 b12 v46 v47 v48 v49 v50 v51 v52 v53 v54 v55 v56 v57 v9,listed=#[b0,b1,b2,b3,b4,b5,b6,b7,b8,b9,b10,b11,b12]∧act=Act.mk #[.agg #[.int .i64 st,.int .i64 2,.slice hA hood.length hc,.slice vA vs.length vc,.slice (some ⟨rb,ro,none⟩) rs.length rc],.int .i64 ↑i,.slice iA inn.length ic,.pointer (some ⟨gT,0,none⟩),undef,undef,.int .i64 0,.bool false,.pointer (some ⟨gR,0,none⟩),v9,.int .i64 ↑k,undef,undef,undef,undef,undef,.pointer (some ⟨gT,4,none⟩),.slice (some ⟨rb,ro,none⟩) rs.length rc,.int .i64 ↑i,.pointer (some ⟨rb,ro+i*2,none⟩),.agg #[.slice zA ins.length zc,.int .i64 out],.pointer (some ⟨gT,1,none⟩),.int .i64 2,.bool false,undef,undef,undef,undef,undef,undef,undef,.pointer (some ⟨gT,1,none⟩),.int .i64 2,.bool false,.bool false,.pointer (some ⟨gT,1,none⟩),.int .i64 2,.bool true,.bool true,.int .i64 ↑k,.pointer (some ⟨gT,1,none⟩),.int .i64 2,.int .i64 8,.bool true,u44,u45,v46,v47,v48,v49,v50,v51,v52,v53,v54,v55,v56,v57,undef,undef,undef,undef,undef,undef,undef,undef,undef,undef,undef,undef,undef,undef,undef,undef,undef,undef,undef,undef,undef,undef,undef,undef,undef,undef,undef,undef,undef,undef,undef,undef,undef,undef,undef,undef,undef,undef,undef,undef,undef,undef,undef,undef,undef,undef,undef,undef,undef,undef,undef,undef,undef,undef,undef,undef,undef,undef,undef,undef,undef,undef,undef,undef,undef,undef,undef,undef,undef,undef,undef,undef,undef,undef,undef,undef,undef,undef,undef,undef] []∧Rd9J wr (.agg #[.int .i64 st,.int .i64 2,.slice hA hood.length hc,.slice vA vs.length vc,.slice (some ⟨rb,ro,none⟩) rs.length rc]) (.slice zA ins.length zc) (k) (out) (.slice iA inn.length ic) (ins.length) (tl) (f) (ex) (f2) (gR) b0 b1 b2 b3 b4 b5 b6 b7 b8 b9 b10 b11 b12 v46 v47 v48 v49 v50 v51 v52 v53 v54 v55 v56 v57 v9 w') ?_ ?_ ?_
    ·exact (e_8 (e_8 (e_8 (e_2 ⟨rfl,rfl,(by constructor;(case below=>exact ((Below.refl _ wr).drew));(case w9=>exact (fun _=>rfl));all_goals simp)⟩))))
    ·rintro i listed act w' hi ⟨b0,b1,b2,b3,b4,b5,b6,b7,b8,b9,b10,b11,b12,v46,v47,v48,v49,v50,v51,v52,v53,v54,v55,v56,v57,v9,rfl,rfl,H⟩;have hi16:i < 13:=by
      obtain⟨-,o,ho,-⟩:=mem_ready.1 hi;exact (Array.getElem?_eq_some_iff.1 ho).1
     obtain rfl | rfl | rfl | rfl | rfl | rfl | rfl | rfl | rfl | rfl | rfl | rfl | rfl:i=0∨i=1∨i=2∨i=3∨i=4∨i=5∨i=6∨i=7∨i=8∨i=9∨i=10∨i=11∨i=12:=by omega
     all_goals simp[mem_ready,Region.binds] at hi
     ·have h12:b12=false:=by
       cases hb:b12 with
       | false=>rfl
       | true=>exact absurd (H.q0 hb) (by simp[hi])
      obtain rfl:=H.w9 h12;refine wpOp_hidden rfl fun K hK=>?_;go_wp2;refine OnlyN.mk (hK.out _ _ (e_8 (e_8 (e_8 (e_2 ⟨rfl,rfl,{ H with h0:=fun _=>rfl,q0:=fun _=>rfl }⟩)))))
     ·have hB:=H.below;have hcc:=HPB.out.below hB HPB.out.lt;have cc0:=hcc.cell_ 0 (.int .i64 st) rfl;have cc1:=hcc.cell_ 1 (.int .i64 2) rfl;have cc2:=hcc.cell_ 2 (.slice hA hood.length hc) rfl;have cc3:=hcc.cell_ 3 (.slice vA vs.length vc) rfl;have cc4:=hcc.cell_ 4 (.slice (some ⟨rb,ro,none⟩) rs.length rc) rfl;clear hcc;clear hB;refine wpOp_hidden rfl fun K hK=>?_;go_wp2;refine OnlyN.mk (hK.out _ _ (e_8 (e_8 (e_8 (e_2 ⟨rfl,rfl,{ H with h1:=fun _=>rfl }⟩)))))
     ·have hB:=H.below;have hcc:=HPB.out.below hB HPB.out.lt;have cc0:=hcc.cell_ 0 (.int .i64 st) rfl;have cc1:=hcc.cell_ 1 (.int .i64 2) rfl;have cc2:=hcc.cell_ 2 (.slice hA hood.length hc) rfl;have cc3:=hcc.cell_ 3 (.slice vA vs.length vc) rfl;have cc4:=hcc.cell_ 4 (.slice (some ⟨rb,ro,none⟩) rs.length rc) rfl;clear hcc;clear hB;refine wpOp_hidden rfl fun K hK=>?_;go_wp2;refine OnlyN.mk (hK.out _ _ (e_8 (e_8 (e_8 (e_2 ⟨rfl,rfl,{ H with h2:=fun _=>rfl }⟩)))))
     ·refine wpOp_hidden rfl fun K hK=>?_;go_wp2;refine OnlyN.mk (hK.out _ _ (e_8 (e_8 (e_8 (e_2 ⟨rfl,rfl,{ H with h3:=fun _=>rfl }⟩)))))
     ·obtain rfl:=H.h3 (by simp[hi]);have hB:=H.below;have cc0:=(HQB.out.below hB HQB.out.lt).cell_ 0 (.slice zA ins.length zc) rfl;clear hB;refine wpOp_hidden rfl fun K hK=>?_;go_wp2;refine OnlyN.mk (hK.out _ _ (e_8 (e_8 (e_8 (e_2 ⟨rfl,rfl,{ H with h4:=fun _=>rfl }⟩)))))
     ·refine wpOp_hidden rfl fun K hK=>?_;go_wp2;refine OnlyN.mk (hK.out _ _ (e_8 (e_8 (e_8 (e_2 ⟨rfl,rfl,{ H with h5:=fun _=>rfl }⟩)))))
     ·obtain rfl:=H.h2 (by simp[hi]);obtain rfl:=H.h4 (by simp[hi]);obtain rfl:=H.h5 (by simp[hi]);have hB:=H.below;have HC5:=hid (HTU.out w' hB);have HBW:=hid hB;clear hB;refine wpOp_hidden rfl fun K hK=>?_;go_wp2_with (go_at_call 80;refine HC5.out.mono ?_;rintro en w9 ⟨A9,c9,rfl,hi9,hb9⟩;refine Hid.out ?_);refine hid ?_;have HI9:=hid hi9;clear HC5 hi9;have HB9:=hid hb9;have HBN:=hid (HBW.out.trans (hb9.mono HBW.out.size));clear hb9;go_wp2;refine OnlyN.mk (hK.out _ _ (e_8 (e_8 (e_8 (e_2 ⟨rfl,rfl,{ H with below:=HBN.out,x6:=fun _=>⟨A9,c9,rfl,HI9.out⟩ }⟩)))))
     ·refine wpOp_hidden rfl fun K hK=>?_;go_wp2;refine OnlyN.mk (hK.out _ _ (e_8 (e_8 (e_8 (e_2 ⟨rfl,rfl,{ H with h7:=fun _=>rfl }⟩)))))
     ·obtain rfl:=H.h7 (by simp[hi]);have hB:=H.below;have cc1:=(HQB.out.below hB HQB.out.lt).cell_ 1 (.int .i64 out) rfl;clear hB;refine wpOp_hidden rfl fun K hK=>?_;go_wp2;refine OnlyN.mk (hK.out _ _ (e_8 (e_8 (e_8 (e_2 ⟨rfl,rfl,{ H with h8:=fun _=>rfl }⟩)))))
     ·refine wpOp_hidden rfl fun K hK=>?_;go_wp2;refine OnlyN.mk (hK.out _ _ (e_8 (e_8 (e_8 (e_2 ⟨rfl,rfl,{ H with h9:=fun _=>rfl }⟩)))))
     ·obtain rfl:=H.h1 (by simp[hi]);obtain rfl:=H.h8 (by simp[hi]);obtain rfl:=H.h9 (by simp[hi]);have hB:=H.below;obtain⟨A5,c5,e5,hi5⟩:=H.x6 (by simp[hi]);subst e5;have HC5:=hid (HEX.out w' A5 c5 hB hi5);have HX5:=hid hi5;clear hi5;have HBW:=hid hB;clear hB;refine wpOp_hidden rfl fun K hK=>?_;go_wp2_with (go_at_call 78;refine HC5.out.mono ?_;rintro en w9 ⟨rfl,hb9⟩;refine Hid.out ?_);refine hid ?_;clear HC5;have HB9:=hid hb9;have HBN:=hid (HBW.out.trans (hb9.mono HBW.out.size));clear hb9;go_wp2;refine OnlyN.mk (hK.out _ _ (e_8 (e_8 (e_8 (e_2 ⟨rfl,rfl,{ H with h10:=fun _=>rfl,below:=HBN.out,x6:=fun h=>(H.x6 h).imp fun A9 h=>h.imp fun c9 h=>⟨h.1,h.2.ext HB9.out⟩ }⟩)))))
     ·obtain rfl:=H.h0 (by simp[hi]);obtain rfl:=H.h10 (by simp[hi]);have hB:=H.below;have HC5:=hid (HLE.out w');have HBW:=hid hB;clear hB;refine wpOp_hidden rfl fun K hK=>?_;go_wp2_with (go_at_call 79;refine HC5.out.mono ?_;rintro en w9 ⟨rfl,hb9⟩;refine Hid.out ?_);refine hid ?_;clear HC5;have HB9:=hid hb9;have HBN:=hid (HBW.out.trans (hb9.mono HBW.out.size));clear hb9;go_wp2;refine OnlyN.mk (hK.out _ _ (e_8 (e_8 (e_8 (e_2 ⟨rfl,rfl,{ H with h11:=fun _=>rfl,below:=HBN.out,x6:=fun h=>(H.x6 h).imp fun A9 h=>h.imp fun c9 h=>⟨h.1,h.2.ext HB9.out⟩ }⟩)))))
     ·obtain rfl:=H.h11 (by simp[hi]);refine wpOp_hidden rfl fun K hK=>?_;go_wp2;refine OnlyN.mk (hK.out _ _ (e_8 (e_8 (e_8 (e_2 ⟨rfl,rfl,{ H with h12:=fun _=>rfl,w9:=fun h=>(by cases h),q0:=fun _=>(by simp[hi]) }⟩)))))
    ·rintro listed act w' hr ⟨b0,b1,b2,b3,b4,b5,b6,b7,b8,b9,b10,b11,b12,v46,v47,v48,v49,v50,v51,v52,v53,v54,v55,v56,v57,v9,rfl,rfl,H⟩;have hn:=List.eq_nil_iff_forall_not_mem.1 hr;have r0:=hn 0;simp[mem_ready,Region.binds] at r0;subst r0;have r1:=hn 1;simp[mem_ready,Region.binds] at r1;subst r1;have r2:=hn 2;simp[mem_ready,Region.binds] at r2;subst r2;have r3:=hn 3;simp[mem_ready,Region.binds] at r3;subst r3;have r4:=hn 4;simp[mem_ready,Region.binds] at r4;subst r4;have r5:=hn 5;simp[mem_ready,Region.binds] at r5;subst r5;have r6:=hn 6;simp[mem_ready,Region.binds] at r6;subst r6;have r7:=hn 7;simp[mem_ready,Region.binds] at r7;subst r7;have r8:=hn 8;simp[mem_ready,Region.binds] at r8;subst r8;have r9:=hn 9;simp[mem_ready,Region.binds] at r9;subst r9;have r10:=hn 10;simp[mem_ready,Region.binds] at r10;subst r10;have r11:=hn 11;simp[mem_ready,Region.binds] at r11;subst r11;have r12:=hn 12;simp[mem_ready,Region.binds] at r12;subst r12;try dsimp only
     obtain⟨A5,c5,e5,-⟩:=H.x6 rfl;obtain rfl:=H.h12 rfl;have HB6:=hid (HBW.out.trans (H.below.mono HBW.out.size));obtain⟨w6,rfl⟩:∃ w6:World,w6=w':=⟨_,rfl⟩
     clear H hr hn e5;go_wp2;go_roundw
     case rel=>exact⟨k+1,HK.out,(by first | rfl | (rw[HWK.out];rfl)),(by rw[HF2.out]),HB6⟩
     case measure=>(try rw[HWK.out]);exact meas_step HK.out
   ·obtain rfl:k=8:=Nat.le_antisymm hk (Nat.le_of_not_lt hkl);have d1:decide ((((8:Nat):Int)) < 8)=false:=by decide
    have HR2:Hid (rdecideP 2 hood vars ins out inn=f):=hid (by rw[HRES.out,hff]);clear hk hkl hff HRES;have HRES:=HR2;clear HR2;by_cases hf:f < 0
    ·have df:decide (f < 0)=true:=decide_eq_true hf;have HF:Hid (toR f=(0,false)):=hid (if_pos hf);clear hf;go_wp2;go_ret2;exact⟨by rw[HRES.out,HF.out] <;> rfl,btr HB.out HBW.out⟩
    ·have df:decide (f < 0)=false:=decide_eq_false hf;have HF:Hid (toR f=(f,true)):=hid (if_neg hf);clear hf;go_wp2;go_ret2;exact⟨by rw[HRES.out,HF.out] <;> rfl,btr HB.out HBW.out⟩
 ·have HRES0:Hid (rdecideP 3 hood vars ins out inn=rpermutedP hood vars ins out inn):=hid (by unfold rdecideP;rw[if_neg (by decide),if_pos rfl]);have hvl:vars.length=vs.length:=by rw[HVS.out,List.length_map]
  have HVL:=hid hvl;obtain⟨c,hcc⟩:∃ c,c=ctrP hood:=⟨_,rfl⟩
  have HCC:=hid hcc;have HCT:Hid (∀ W,Below wb.heap.size wb W→Calls Tryz.prog 22 #[.slice hA hood.length hc] W fun e w'=>e=.returned (.int .i64 c)∧Below W.heap.size W w'):=hid (fun W hW=>by rw[hcc];exact rcentre_any hA hood hc W (HT.out.hood.ext hW));have x1:=HP.out.cell_ 1 (.int .i64 3) rfl;have x3:=HP.out.cell_ 3 (.slice vA vs.length vc) rfl;have h40:=HL.out.2.2.2.2;obtain⟨i0,hi0,hz0,hz1,hz2⟩:=info_parts Tryz.infoInt;have hmw:wb.heap.size≤wb.heap.size:=Nat.le_refl _;clear hvl hcc;go_wp2_with (at_make;refine wpList_make_full _ rfl _ _ 30 rfl wb.heap.size 3 i0 _ 1 Tryz.underlying30 hi0 hz0 hz1 .i64 .i64 vs.length vs.length vs.length rfl rfl rfl rfl (by rw[hz2];omega) (by unfold maxLen;omega) hmw ?_);intro w1 ho1 hg1;have hb1:Below wb.heap.size wb w1:=(Below.refl _ wb).grown hg1 (Nat.le_refl _) (by intro k hk;cases hk);have hr1:OwnIA w1 wb.heap.size (.slice (some ⟨wb.heap.size,0,none⟩) vs.length vs.length) (negN vs.length 0):=by
   unfold OwnIA OwnI;rw[negN_zero,List.length_replicate,List.map_replicate];rw[toList_madeCells_one] at ho1;exact ho1
  obtain⟨gO,hgO⟩:∃ g,g=wb.heap.size:=⟨_,rfl⟩
  have HGL:Hid (wb.heap.size≤gO):=hid (by rw[hgO];exact Nat.le_refl _);have HGE:Hid (gO=wb.heap.size):=hid hgO;have HR1:Hid (OwnIA w1 wb.heap.size (.slice (some ⟨gO,0,none⟩) vs.length vs.length) (negN vs.length 0)):=hid (by rw[hgO];exact hr1);rw[← hgO];have HB1:=hid hb1;clear ho1 hg1 hb1 hr1 hgO hi0 hz0 hz1 hz2 hmw x1 x3 h40;go_upto_region 13 with fail
  go_loopw [12] (fun iv wr=>∃ m:Nat,m≤vs.length∧iv=.int .i64 m∧Hid (OwnIA wr wb.heap.size (.slice (some ⟨gO,0,none⟩) vs.length vs.length) (negN vs.length m))∧Hid (Below wb.heap.size wb wr)) (fun iv _=>vs.length - (intOf iv).toNat)
  case atStart=>exact⟨0,Nat.zero_le _,rfl,HR1,HB1⟩
  case round=>
   clear HR1 HB1;obtain⟨m,hm,rfl,HO,HBW⟩:=hrel;by_cases hml:m < vs.length
   ·have hwm:wrap64 ((m:Int)+1)=(m:Int)+1:=by have:=HL.out.2.2.2.2;unfold wrap64;omega
    have HWM:=hid hwm;obtain⟨c0,f0⟩:=HO.out.cellk (k:=m) (by rw[negN_len hm];exact hml);have hset:=HO.out.set (by rw[negN_len hm]) m (-1);rw[negN_step hml] at hset;have HO2:=hid hset;have HB2:=hid (HBW.out.setCell (p:=⟨gO,m,none⟩) HGL.out (.int .i64 (-1)));have HM:=hid hml;clear hm hwm hset;go_wp2;go_roundw
    case rel=>exact⟨m+1,HM.out,(by first | rfl | (rw[HWM.out];rfl)),HO2,HB2⟩
    case measure=>(try rw[HWM.out]);exact meas_step HM.out
   ·obtain rfl:m=vs.length:=Nat.le_antisymm hm (Nat.le_of_not_lt hml);rw[negN_full] at HO;clear hm hml;have HCALL:=hid (HCT.out wr HBW.out);have x2:=(HP.out.below HBW.out HP.out.lt).cell_ 2 (.slice hA hood.length hc) rfl;go_wp2_with (go_at_call 22;refine HCALL.out.mono ?_;rintro en w3 ⟨rfl,hb3⟩;refine Hid.out ?_);refine hid ?_;have HB3:=hid (btr HBW.out hb3);have HO3:=hid (HO.out.ext hb3);have HG3:Hid (gO < w3.heap.size):=hid (own_lt' HO3.out rfl).1;clear hb3 x2 HCALL HCT;go_upto_region 19 with fail
    go_loopw [14,15] (fun lv jv wl=>∃ j:Nat,j≤ins.length∧jv=.int .i64 j∧Hid (OwnIA wl w3.heap.size lv (offC ins j c))∧Hid (Below w3.heap.size w3 wl)) (fun _ jv _=>ins.length - (intOf jv).toNat)
    case atStart=>exact⟨0,Nat.zero_le _,rfl,hid (OwnI.nil _ _ _),hid (Below.refl _ _)⟩
    case round=>
     obtain⟨j,hj,rfl,HLF,HBL⟩:=hrel;have hqz:=HQ.out.below (btr HB3.out HBL.out) HQ.out.lt;have r0:=hqz.cell_ 0 (.slice zA ins.length zc) rfl;clear hqz;by_cases hjl:j < ins.length
     ·have hins25:ins.length≤25:=by rw[HL.out.2.1];exact HL.out.2.2.1
      have hwj:=(wrap_upP hjl hins25).2;have HWJ:=hid hwj;by_cases hjk:(j:Int)=c
      ·have d2:((j:Int) != c)=false:=by rw[hjk];simp
       have HL2:Hid (OwnIA wr w3.heap.size u14 (offC ins (j+1) c)):=hid (by rw[offC_skip hjk];exact HLF.out);have HJ:=hid hjl;clear hj hjk hwj hins25;go_wp2;go_roundw
       case rel=>exact⟨j+1,HJ.out,(by first | rfl | (rw[HWJ.out];rfl)),HL2,HBL⟩
       case measure=>(try rw[HWJ.out]);exact meas_step HJ.out
      ·have d2:((j:Int) != c)=true:=by simp;exact hjk
       have hstep:=offC_step (l:=ins) hjk;obtain⟨zb,zo,ez,-,hcj⟩:=(HZ.out.ext (btr HB3.out HBL.out)).at_ hjl;have hg:ins.getD j 0=ins[j]:=by rw[List.getD_eq_getElem?_getD,List.getElem?_eq_getElem hjl];rfl
       obtain⟨x,hx⟩:∃ x,x=ins[j]:=⟨_,rfl⟩
       rw[hg,← hx] at hstep;rw[← hx] at hcj;have HST:=hid hstep;have hown:=HLF.out;have hln:(offC ins j c).length < 1000000000000:=by have:=offC_len ins j c;omega
       have hbs:=HBL.out.size;have HJ:=hid hjl;subst ez;clear hj hjk hwj hstep hx hg hins25;go_wp2_with (at_builtin;refine wpList_pushI rfl _ _ _ rfl w3.heap.size 3 Tryz.underlying30 Tryz.infoInt _ _ rfl hown _ rfl hln hbs ?_);intro v' w7 ho' hb';have HO7:Hid (OwnIA w7 w3.heap.size v' (offC ins (j+1) c)):=hid (by rw[HST.out];exact ho');have HB7:=hid (HBL.out.trans hb');clear ho' hb' hown hln hbs hcj r0;go_wp2;go_roundw
       case rel=>exact⟨j+1,HJ.out,(by first | rfl | (rw[HWJ.out];rfl)),HO7,HB7⟩
       case measure=>(try rw[HWJ.out]);exact meas_step HJ.out
     ·obtain rfl:j=ins.length:=Nat.le_antisymm hj (Nat.le_of_not_lt hjl);clear hj hjl;obtain⟨lA,lc,elv,hli,hlc⟩:=HLF.out.capI;subst elv;obtain⟨wl,hwl⟩:∃ W,W=wr:=⟨_,rfl⟩
      rw[← hwl] at HLF HBL hli r0 ⊢;clear hwl;go_upto_region 23 with fail
      have HLI:=hid (And.intro hli hlc);have HO5:=hid (HO3.out.ext HBL.out);have HB5:=hid (btr HB3.out HBL.out);clear hli hlc r0;by_cases hc0:0≤c
      ·have d3:decide (0≤c)=true:=decide_eq_true hc0;obtain⟨cn,rfl⟩:∃ n:Nat,c=(n:Int):=⟨c.toNat,by omega⟩
       have hcn:cn < hood.length:=by
        rcases ctr_lt15 hood with h | ⟨-,h⟩
        ·rw[← HCC.out] at h;omega
        ·rw[← HCC.out,Int.toNat_natCast] at h;exact h
       have hci0:cn < ins.length:=by rw[HL.out.2.1];exact hcn
       have hcn0:cn < inn.length:=by rw[HL.out.1];exact hcn
       obtain⟨zb,zo,ez,-,hcz⟩:=(HZ.out.ext HB5.out).at_ hci0;obtain⟨ib,io,ei,-,hci⟩:=(HI.out.ext HB5.out).at_ hcn0;have hel:=HE.out.1 (ins[cn]'hci0) (List.getElem_mem hci0);have hgz:ins.getD cn 0=ins[cn]'hci0:=by rw[List.getD_eq_getElem?_getD,List.getElem?_eq_getElem hci0];rfl
       have hgi:inn.getD cn 0=inn[cn]'hcn0:=by rw[List.getD_eq_getElem?_getD,List.getElem?_eq_getElem hcn0];rfl
       obtain⟨e,hee⟩:∃ e,e=ins[cn]'hci0:=⟨_,rfl⟩
       obtain⟨s,hss⟩:∃ s,s=inn[cn]'hcn0:=⟨_,rfl⟩
       rw[← hee] at hcz hel hgz;rw[← hss] at hci hgi;have HEE:=hid (And.intro hee hss);subst ez ei;obtain⟨fb,hfb⟩:∃ b,b=rfitsP vars (List.replicate vs.length (-1)) e s:=⟨_,rfl⟩
       have HRP:Hid (rdecideP 3 hood vars ins out inn=if fb=true then rpermP vars out inn (cn:Int) inn.length (offC ins ins.length (cn:Int)) (rsetP (List.replicate vs.length (-1)) e s) else -1):=hid (by
        rw[HRES0.out];unfold rpermutedP;rw[← HCC.out,if_pos hc0,Int.toNat_natCast,hgz,hgi,HVL.out,← hfb])
       have HFI:Hid (∀ d os,Calls Tryz.prog 81 #[.agg #[.int .i64 st,.int .i64 3,.slice hA hood.length hc,.slice vA vs.length vc,.slice (some ⟨rb,ro,none⟩) rs.length rc],.int .i64 e,.int .i64 s,.slice (some ⟨gO,0,none⟩) vs.length vs.length] (grow (redrawn wl d) os) fun en w''=>en=.returned (.bool fb)∧∃ p:Regrown,w''=grow (redrawn wl p.1) p.2):=hid (fun d os=>by
        have h:=rfits_any hA hc vA vc (some ⟨rb,ro,none⟩) rc ⟨st,3,hood,vs,rs⟩ e s (some ⟨gO,0,none⟩) vs.length (List.replicate vs.length (-1)) (grow (redrawn wl d) os) (HT.out.vars.ext (btr HB5.out (below_regrown wl d os))) HL.out.2.2.2.2 (OwnI.reads (HO5.out.ext (below_regrown wl d os))) (by simp) hel;unfold tabV at h;dsimp only at h;rw[← HVS.out,← hfb,List.length_replicate] at h;exact Calls.regrown_of h)
       have HEL:=hid hel;have HCZ:=hid hcz;have HCI:=hid hci;have HCN:=hid (And.intro hci0 hcn0);have hqz:=HQ.out.below HB5.out HQ.out.lt;have hpz:=HP.out.below HB5.out HP.out.lt;have r0:=cell_regrown (hqz.cell_ 0 (.slice (some ⟨zb,zo,none⟩) ins.length zc) rfl);have j1:=cell_regrown hcz;have j2:=cell_regrown hci;have k0:=cell_regrown (hpz.cell_ 0 (.int .i64 st) rfl);have k1:=cell_regrown (hpz.cell_ 1 (.int .i64 3) rfl);have k2:=cell_regrown (hpz.cell_ 2 (.slice hA hood.length hc) rfl);have k3:=cell_regrown (hpz.cell_ 3 (.slice vA vs.length vc) rfl);have k4:=cell_regrown (hpz.cell_ 4 (.slice (some ⟨rb,ro,none⟩) rs.length rc) rfl);clear hc0 hcn hel hgz hgi hee hss hfb hcz hci hqz hpz;go_upto_region 24 with fail
       refine wp_region_quiet_below (by kernel_rfl) (by kernel_rfl) ?_;repeat (go_big_quiet_step (first | with_reducible exact HFI.out _ _))
       refine wpQuiet_nil ?_;intro _ hw';obtain⟨⟨dq,osq⟩,hw''⟩:=hw';subst hw'';obtain⟨w5,hw5⟩:∃ W,W=grow (redrawn wl dq) osq:=⟨_,rfl⟩
       have hb5:Below wl.heap.size wl w5:=by rw[hw5];exact below_regrown wl dq osq
       rw[← hw5];have HB6:=hid (btr HB5.out hb5);have HO6:=hid (HO5.out.ext hb5);have HL6:=hid (HLI.out.1.ext hb5);clear hw5 hb5 r0 j1 j2 k0 k1 k2 k3 k4 d3;cases fb with
       | false=>
        have HF:Hid (toR (rdecideP 3 hood vars ins out inn)=(0,false)):=hid (by rw[HRP.out];rfl);go_wp2;go_ret2;exact⟨by rw[HF.out] <;> rfl,btr HB.out HB6.out⟩
       | true=>
        have HR2:Hid (rdecideP 3 hood vars ins out inn=rpermP vars out inn (cn:Int) inn.length (offC ins ins.length (cn:Int)) (rsetP (List.replicate vs.length (-1)) e s)):=hid (by rw[HRP.out];rfl);have hqz:=HQ.out.below HB6.out HQ.out.lt;have r0:=hqz.cell_ 0 (.slice (some ⟨zb,zo,none⟩) ins.length zc) rfl;have hcz:w5.cell? ⟨zb,zo+cn,none⟩=some (.int .i64 e):=by
         obtain⟨b9,o9,e9,-,h9⟩:=(HZ.out.ext HB6.out).at_ HCN.out.1;injection e9 with e9
         injection e9 with e8 e9
         subst e8 e9;rw[h9];exact congrArg (fun x=>some (Value.int .i64 x)) HEE.out.1.symm
        have hci:w5.cell? ⟨ib,io+cn,none⟩=some (.int .i64 s):=by
         obtain⟨b9,o9,e9,-,h9⟩:=(HI.out.ext HB6.out).at_ HCN.out.2;injection e9 with e9
         injection e9 with e8 e9
         subst e8 e9;rw[h9];exact congrArg (fun x=>some (Value.int .i64 x)) HEE.out.2.symm
        have hcn1:=HCN.out.1;have hcn2:=HCN.out.2;clear hqz;by_cases he0:e < 0
        ·have d4:decide (e < 0)=true:=decide_eq_true he0;have hvl:=HEL.out.1 he0;obtain⟨v,hv⟩:∃ v:Nat,-1 - e=(v:Int):=⟨(-1 - e).toNat,by omega⟩
         have hv':(-1 - e).toNat=v:=by omega
         have hvl2:v < vs.length:=by rw[hv'] at hvl;exact hvl
         have hwv:wrap64 (-1 - e)=(v:Int):=by have:=HL.out.2.2.2.2;unfold wrap64;omega
         have hrs:rsetP (List.replicate vs.length (-1)) e s=(List.replicate vs.length (-1)).set v s:=by unfold rsetP;rw[if_neg (by omega),hv']
         obtain⟨cb,fb⟩:=HO6.out.cellk (k:=v) (by rw[List.length_replicate];exact hvl2);have HSET:=hid (HO6.out.set (by rw[List.length_replicate]) v s);have HBV:=hid (HB6.out.setCell (p:=⟨gO,v,none⟩) HGL.out (.int .i64 s));have HLV:=hid (HLF.out.kset (w9:=w5) (g9:=gO) (v9:=v) (x9:=s) HG3.out HL6.out);clear hv hv' hvl he0;go_wp2;go_region
         obtain⟨wz,hwz⟩:∃ W,W=(w5.setCell ⟨gO,v,none⟩ (.int .i64 s)).drew:=⟨_,rfl⟩
         have HNZ:Hid (OwnIA wz wb.heap.size (.slice (some ⟨gO,0,none⟩) vs.length vs.length) (rsetP (List.replicate vs.length (-1)) e s)):=hid (by rw[hwz,hrs];exact HSET.out);have HBZ:Hid (Below wb.heap.size wb wz):=hid (by rw[hwz];exact HBV.out.drew);have HLZ:Hid (Ints wz lA (offC ins ins.length (cn:Int))):=hid (by rw[hwz];exact HLV.out);rw[← hwz];obtain⟨NB,hNB⟩:∃ NB,NB=rsetP (List.replicate vs.length (-1)) e s:=⟨_,rfl⟩
         have hnb:NB.length=vs.length:=by rw[hNB,hrs,List.length_set,List.length_replicate]
         rw[← hNB] at HNZ HR2;clear hwz hrs hci hcz cb fb d4 hwv hvl2 HSET HBV r0 hcn1 hcn2 hNB HLV;have hoc:(offC ins ins.length (cn:Int)).length≤25:=by have h1:=offC_len ins ins.length (cn:Int);have h2:=HL.out.2.1;have h3:=HL.out.2.2.1;omega
         have hcall:=rperm_any hA hc vA vc (some ⟨rb,ro,none⟩) rc ⟨st,3,hood,vs,rs⟩ out _ ic inn wb HT.out.hood HT.out.vars HI.out HL.out.2.2.2.2 (by rw[HL.out.1];exact HL.out.2.2.1) HE.out.2.1 HE.out.2.1.1 inn.length (offC ins ins.length (cn:Int)) NB lA lc (some ⟨gO,0,none⟩) vs.length wz HBZ.out (Nat.le_refl _) HLZ.out HLI.out.2 hoc (fun x hx=>HE.out.1 x (offC_mem rfl hx)) (OwnI.reads HNZ.out) hnb;unfold tabV at hcall;dsimp only at hcall;rw[← HVS.out,← HCC.out,Nat.sub_self,hnb] at hcall;obtain⟨f,hf9⟩:∃ f,f=rpermP vars out inn (cn:Int) inn.length (offC ins ins.length (cn:Int)) NB:=⟨_,rfl⟩
         rw[← hf9] at hcall;have HRES:Hid (rdecideP 3 hood vars ins out inn=f):=hid (by rw[HR2.out,hf9]);have HCALL:=hid hcall;have hpz:=HP.out.below HBZ.out HP.out.lt;have hqz:=HQ.out.below HBZ.out HQ.out.lt;have x0:=hpz.cell_ 0 (.int .i64 st) rfl;have x1:=hpz.cell_ 1 (.int .i64 3) rfl;have x2:=hpz.cell_ 2 (.slice hA hood.length hc) rfl;have x3:=hpz.cell_ 3 (.slice vA vs.length vc) rfl;have x4:=hpz.cell_ 4 (.slice (some ⟨rb,ro,none⟩) rs.length rc) rfl;have r0:=hqz.cell_ 0 (.slice (some ⟨zb,zo,none⟩) ins.length zc) rfl;have r1:=hqz.cell_ 1 (.int .i64 out) rfl

         clear hcall hf9 hpz hqz hoc hnb;go_wp2_with (go_at_call 82;refine HCALL.out.mono ?_;rintro en w9 ⟨rfl,hb9⟩;refine Hid.out ?_);refine hid ?_;have HBE:=hid (btr HBZ.out hb9);clear hb9 HCALL x0 x1 x2 x3 x4 r0 r1;by_cases hf:f < 0
         ·have df:decide (f < 0)=true:=decide_eq_true hf;have HF:Hid (toR f=(0,false)):=hid (if_pos hf);clear hf;go_wp2;go_ret2;exact⟨by rw[HRES.out,HF.out] <;> rfl,btr HB.out HBE.out⟩
         ·have df:decide (f < 0)=false:=decide_eq_false hf;have HF:Hid (toR f=(f,true)):=hid (if_neg hf);clear hf;go_wp2;go_ret2;exact⟨by rw[HRES.out,HF.out] <;> rfl,btr HB.out HBE.out⟩
        ·have d4:decide (e < 0)=false:=decide_eq_false he0;obtain⟨NB,hNB⟩:∃ NB,NB=rsetP (List.replicate vs.length (-1)) e s:=⟨_,rfl⟩
         have hrs:NB=List.replicate vs.length (-1):=by rw[hNB];unfold rsetP;rw[if_pos (by omega)]
         have hnb:NB.length=vs.length:=by rw[hrs,List.length_replicate]
         have HNZ:Hid (OwnIA w5 wb.heap.size (.slice (some ⟨gO,0,none⟩) vs.length vs.length) NB):=hid (by rw[hrs];exact HO6.out);have HBZ:=HB6;have HLZ:=HL6;rw[← hNB] at HR2;clear he0 hrs hNB;go_upto_region 28 with fail
         clear hcz hci r0 d4 hcn1 hcn2;obtain⟨wz,hwz⟩:∃ W,W=w5:=⟨_,rfl⟩
         rw[← hwz] at HNZ HBZ HLZ ⊢;clear hwz;have hoc:(offC ins ins.length (cn:Int)).length≤25:=by have h1:=offC_len ins ins.length (cn:Int);have h2:=HL.out.2.1;have h3:=HL.out.2.2.1;omega
         have hcall:=rperm_any hA hc vA vc (some ⟨rb,ro,none⟩) rc ⟨st,3,hood,vs,rs⟩ out _ ic inn wb HT.out.hood HT.out.vars HI.out HL.out.2.2.2.2 (by rw[HL.out.1];exact HL.out.2.2.1) HE.out.2.1 HE.out.2.1.1 inn.length (offC ins ins.length (cn:Int)) NB lA lc (some ⟨gO,0,none⟩) vs.length wz HBZ.out (Nat.le_refl _) HLZ.out HLI.out.2 hoc (fun x hx=>HE.out.1 x (offC_mem rfl hx)) (OwnI.reads HNZ.out) hnb;unfold tabV at hcall;dsimp only at hcall;rw[← HVS.out,← HCC.out,Nat.sub_self,hnb] at hcall;obtain⟨f,hf9⟩:∃ f,f=rpermP vars out inn (cn:Int) inn.length (offC ins ins.length (cn:Int)) NB:=⟨_,rfl⟩
         rw[← hf9] at hcall;have HRES:Hid (rdecideP 3 hood vars ins out inn=f):=hid (by rw[HR2.out,hf9]);have HCALL:=hid hcall;have hpz:=HP.out.below HBZ.out HP.out.lt;have hqz:=HQ.out.below HBZ.out HQ.out.lt;have x0:=hpz.cell_ 0 (.int .i64 st) rfl;have x1:=hpz.cell_ 1 (.int .i64 3) rfl;have x2:=hpz.cell_ 2 (.slice hA hood.length hc) rfl;have x3:=hpz.cell_ 3 (.slice vA vs.length vc) rfl;have x4:=hpz.cell_ 4 (.slice (some ⟨rb,ro,none⟩) rs.length rc) rfl;have r0:=hqz.cell_ 0 (.slice (some ⟨zb,zo,none⟩) ins.length zc) rfl;have r1:=hqz.cell_ 1 (.int .i64 out) rfl

         clear hcall hf9 hpz hqz hoc hnb;go_wp2_with (go_at_call 82;refine HCALL.out.mono ?_;rintro en w9 ⟨rfl,hb9⟩;refine Hid.out ?_);refine hid ?_;have HBE:=hid (btr HBZ.out hb9);clear hb9 HCALL x0 x1 x2 x3 x4 r0 r1;by_cases hf:f < 0
         ·have df:decide (f < 0)=true:=decide_eq_true hf;have HF:Hid (toR f=(0,false)):=hid (if_pos hf);clear hf;go_wp2;go_ret2;exact⟨by rw[HRES.out,HF.out] <;> rfl,btr HB.out HBE.out⟩
         ·have df:decide (f < 0)=false:=decide_eq_false hf;have HF:Hid (toR f=(f,true)):=hid (if_neg hf);clear hf;go_wp2;go_ret2;exact⟨by rw[HRES.out,HF.out] <;> rfl,btr HB.out HBE.out⟩
      ·have d3:decide (0≤c)=false:=decide_eq_false hc0;obtain⟨NB,hNB⟩:∃ NB,NB=List.replicate vs.length (-1:Int):=⟨_,rfl⟩
       have HR2:Hid (rdecideP 3 hood vars ins out inn=rpermP vars out inn c inn.length (offC ins ins.length c) NB):=hid (by
        rw[HRES0.out];unfold rpermutedP;rw[← HCC.out,if_neg hc0,HVL.out,hNB])
       have hnb:NB.length=vs.length:=by rw[hNB,List.length_replicate]
       have HNZ:Hid (OwnIA wl wb.heap.size (.slice (some ⟨gO,0,none⟩) vs.length vs.length) NB):=hid (by rw[hNB];exact HO5.out);have HBZ:=HB5;have HLZ:=hid HLI.out.1;clear hc0 hNB;go_upto_region 28 with fail
       clear d3;obtain⟨wz,hwz⟩:∃ W,W=wl:=⟨_,rfl⟩
       rw[← hwz] at HNZ HBZ HLZ ⊢;clear hwz;have hoc:(offC ins ins.length c).length≤25:=by have h1:=offC_len ins ins.length c;have h2:=HL.out.2.1;have h3:=HL.out.2.2.1;omega
       have hcall:=rperm_any hA hc vA vc (some ⟨rb,ro,none⟩) rc ⟨st,3,hood,vs,rs⟩ out _ ic inn wb HT.out.hood HT.out.vars HI.out HL.out.2.2.2.2 (by rw[HL.out.1];exact HL.out.2.2.1) HE.out.2.1 HE.out.2.1.1 inn.length (offC ins ins.length c) NB lA lc (some ⟨gO,0,none⟩) vs.length wz HBZ.out (Nat.le_refl _) HLZ.out HLI.out.2 hoc (fun x hx=>HE.out.1 x (offC_mem rfl hx)) (OwnI.reads HNZ.out) hnb;unfold tabV at hcall;dsimp only at hcall;rw[← HVS.out,← HCC.out,Nat.sub_self,hnb] at hcall;obtain⟨f,hf9⟩:∃ f,f=rpermP vars out inn c inn.length (offC ins ins.length c) NB:=⟨_,rfl⟩
       rw[← hf9] at hcall;have HRES:Hid (rdecideP 3 hood vars ins out inn=f):=hid (by rw[HR2.out,hf9]);have HCALL:=hid hcall;have hpz:=HP.out.below HBZ.out HP.out.lt;have hqz:=HQ.out.below HBZ.out HQ.out.lt;have x0:=hpz.cell_ 0 (.int .i64 st) rfl;have x1:=hpz.cell_ 1 (.int .i64 3) rfl;have x2:=hpz.cell_ 2 (.slice hA hood.length hc) rfl;have x3:=hpz.cell_ 3 (.slice vA vs.length vc) rfl;have x4:=hpz.cell_ 4 (.slice (some ⟨rb,ro,none⟩) rs.length rc) rfl;have r0:=hqz.cell_ 0 (.slice zA ins.length zc) rfl;have r1:=hqz.cell_ 1 (.int .i64 out) rfl

       clear hcall hf9 hpz hqz hoc hnb;go_wp2_with (go_at_call 82;refine HCALL.out.mono ?_;rintro en w9 ⟨rfl,hb9⟩;refine Hid.out ?_);refine hid ?_;have HBE:=hid (btr HBZ.out hb9);clear hb9 HCALL x0 x1 x2 x3 x4 r0 r1;by_cases hf:f < 0
       ·have df:decide (f < 0)=true:=decide_eq_true hf;have HF:Hid (toR f=(0,false)):=hid (if_pos hf);clear hf;go_wp2;go_ret2;exact⟨by rw[HRES.out,HF.out] <;> rfl,btr HB.out HBE.out⟩
       ·have df:decide (f < 0)=false:=decide_eq_false hf;have HF:Hid (toR f=(f,true)):=hid (if_neg hf);clear hf;go_wp2;go_ret2;exact⟨by rw[HRES.out,HF.out] <;> rfl,btr HB.out HBE.out⟩
end Go.Proofs.YtcmbdhopmncmnaaGreatDoor
