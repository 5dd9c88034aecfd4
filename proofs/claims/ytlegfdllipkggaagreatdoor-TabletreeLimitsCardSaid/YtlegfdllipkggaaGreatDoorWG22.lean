/-
  texts RPermP RSyms RExact RCtr: parts of the proof; conditions stand with each theorem.
-/
import Derived.Test.YtlegfdllipkggaaGreatDoorWG21
import Derived.Test.YtlegfdllipkggaaGreatDoorWG9
import Derived.Test.YtlegfdllipkggaaGreatDoorWG5
import Derived.Test.YtlegfdllipkggaaGreatDoorWG6
namespace Go.Proofs.YtlegfdllipkggaaGreatDoor
set_option maxRecDepth 100000
set_option linter.unusedVariables false
set_option linter.unusedSimpArgs false
theorem erase_perm {α:Type}:∀ (l:List α)(i:Nat)(h:i < l.length),l.Perm (l[i] :: l.eraseIdx i)
 | x :: l,0,_=>by simp
 | x :: l,i+1,h=>by
  have h':i < l.length:=by simpa using h
  have ih:=erase_perm l i h';rw[List.eraseIdx_cons_succ,List.getElem_cons_succ];exact ((List.perm_cons x).2 ih).trans (List.Perm.swap _ _ _)
def UT (vars:List (List Int))(out:Int)(qs:List (Int × Int))(s:Int)(rest A:List Int)(m:Nat)(v:Int):Prop:=
 ∃ i,i < m∧Con vars ((rest.getD i 0,s) :: qs)∧Tset vars out ((rest.getD i 0,s) :: qs) (rest.eraseIdx i) A v
theorem UT.out {vars:List (List Int)}{out:Int}{qs:List (Int × Int)}{s:Int}{rest A:List Int}{m:Nat}{v:Int}(h:UT vars out qs s rest A m v)(h0:0≤out):v=out:=by
 obtain⟨i,-,-,ps,-,-,-,h4⟩:=h;unfold valO at h4;rw[if_pos h0] at h4;exact h4
theorem toR_pos {T:Int→Prop}{x:Int}(h:IsMin T (toR x))(h0:0≤x):T x∧∀ v,T v→x≤v:=by
 unfold toR at h;rw[if_neg (by omega)] at h;rcases h with ⟨h,-⟩ | ⟨-,h1,h2⟩
 ·cases h
 ·exact⟨h1,h2⟩
theorem toR_mk {T:Int→Prop}{x:Int}(h0:0≤x)(h1:T x)(h2:∀ v,T v→x≤v):IsMin T (toR x):=by
 unfold toR;rw[if_neg (by omega)];exact .inr ⟨rfl,h1,h2⟩
theorem rperm_min {N:Nat}{vars:List (List Int)}{out:Int}{inn:List Int}{c:Int}(hn:∀ s ∈ inn,0≤s)(ho:-(N:Int)≤out):∀ (L:Nat)(rest bs:List Int)(qs:List (Int × Int)),
  L≤inn.length→RfN N vars bs qs→rest.length=(elL inn inn.length c L).length→(∀ e ∈ rest,-(N:Int)≤e)→(out < 0→(∃ p ∈ qs,p.1=out)∨out ∈ rest)→
  IsMin (Tset vars out qs rest (elL inn inn.length c L)) (toR (rpermP vars out inn c L rest bs))
 | 0,rest,bs,qs,_,hR,hl,he,hm=>by
  have hr:rest=[]:=List.length_eq_zero_iff.1 hl;subst hr;rw[show elL inn inn.length c 0=[] from rfl];unfold rpermP;have hmm:out < 0→∃ p ∈ qs,p.1=out:=fun h0=>(hm h0).resolve_right (by simp);have hnn:=hR.out_nn ho hmm;refine toR_mk hnn ((Tset.nil hR.con).2 ((hR.val ho hmm _).2 rfl)) fun v hv=>?_;rw[(hR.val ho hmm v).1 ((Tset.nil hR.con).1 hv)];exact Int.le_refl _
 | L+1,rest,bs,qs,hL,hR,hl,he,hm=>by
  unfold rpermP;by_cases hc:((inn.length - (L+1):Nat):Int)=c
  ·rw[if_pos hc];have hE:elL inn inn.length c (L+1)=elL inn inn.length c L:=by rw[elL,if_pos hc]
   rw[hE] at hl ⊢;exact rperm_min hn ho L rest bs qs (by omega) hR hl he hm
  ·rw[if_neg hc];obtain⟨s,hss⟩:∃ s,s=inn.getD (inn.length - (L+1)) 0:=⟨_,rfl⟩
   have hE:elL inn inn.length c (L+1)=s :: elL inn inn.length c L:=by rw[elL,if_neg hc,hss]
   rw[hE] at hl ⊢;rw[← hss];have hs0:0≤s:=by rw[hss];exact getD_mem_nn hn _
   obtain⟨A,hA⟩:∃ A,A=elL inn inn.length c L:=⟨_,rfl⟩
   rw[← hA] at hl ⊢;have ih:=rperm_min (N:=N) (vars:=vars) (inn:=inn) (c:=c) hn ho L;rw[← hA] at ih;have hget:∀ i (h:i < rest.length),rest.getD i 0=rest[i]:=fun i h=>by rw[List.getD_eq_getElem?_getD,List.getElem?_eq_getElem h];rfl
   have key:∀ m:Nat,m≤rest.length→IsMin (UT vars out qs s rest A m) (toR ((List.range m).foldl (rpStep vars out s rest bs (rpermP vars out inn c L)) (-1,false)).1)∧
     (((List.range m).foldl (rpStep vars out s rest bs (rpermP vars out inn c L)) (-1,false)).2=true→0≤((List.range m).foldl (rpStep vars out s rest bs (rpermP vars out inn c L)) (-1,false)).1∧0≤out):=by
    intro m;induction m with
    | zero=>
     intro _;exact⟨IsMin.none fun v ⟨i,hi,_⟩=>absurd hi (Nat.not_lt_zero _),fun h=>by cases h⟩
    | succ m ih2=>
     intro hm';obtain⟨i1,i2⟩:=ih2 (by omega);rw[List.range_succ,List.foldl_append,List.foldl_cons,List.foldl_nil];obtain⟨x,hx⟩:∃ x,x=(List.range m).foldl (rpStep vars out s rest bs (rpermP vars out inn c L)) (-1,false):=⟨_,rfl⟩
     rw[← hx] at i1 i2 ⊢;unfold rpStep;by_cases h1:x.2=true
     ·rw[if_pos h1];obtain⟨j1,j2⟩:=i2 h1;obtain⟨k1,k2⟩:=toR_pos i1 j1;have hxo:=k1.out j2;refine⟨toR_mk j1 ?_ fun v hv=>?_,i2⟩
      ·obtain⟨i,hi,h⟩:=k1;exact⟨i,by omega,h⟩
      ·rw[hv.out j2,hxo];exact Int.le_refl _
     ·rw[if_neg h1];have hmr:m < rest.length:=by omega
      have hfit:=rfit_step hR (he _ (List.getElem_mem hmr)) hs0;rw[← hget m hmr] at hfit;by_cases h2:rfitsP vars bs (rest.getD m 0) s=false
      ·rw[if_pos (.inl h2)];refine⟨i1.congr fun v=>⟨fun ⟨i,hi,h⟩=>⟨i,by omega,h⟩,fun ⟨i,hi,h⟩=>?_⟩,i2⟩;rcases Nat.lt_succ_iff_lt_or_eq.1 hi with hi | rfl
       ·exact⟨i,hi,h⟩
       ·have:=hfit.1.2 h.1;rw[h2] at this;cases this
      ·by_cases h3:rest.getD m 0 ∈ rest.take m
       ·rw[if_pos (.inr h3)];obtain⟨j,hj,e⟩:=List.getElem_of_mem h3;rw[List.length_take] at hj;have hjm:j < m:=by omega
        rw[List.getElem_take] at e;refine⟨i1.congr fun v=>⟨fun ⟨i,hi,h⟩=>⟨i,by omega,h⟩,fun ⟨i,hi,h⟩=>?_⟩,i2⟩;rcases Nat.lt_succ_iff_lt_or_eq.1 hi with hi | rfl
        ·exact⟨i,hi,h⟩
        ·refine⟨j,hjm,?_⟩;have hje:rest.getD j 0=rest.getD i 0:=by rw[hget j (by omega)];exact e
         rw[hje];refine⟨h.1,h.2.permE ?_⟩;have p1:=erase_perm rest j (by omega);have p2:=erase_perm rest i hmr;rw[← hget j (by omega),hje] at p1;rw[← hget i hmr] at p2;exact (List.perm_cons _).1 (p2.symm.trans p1)
       ·rw[if_neg (by rintro (h | h);exact h2 h;exact h3 h)];have h2':rfitsP vars bs (rest.getD m 0) s=true:=by
         cases h:rfitsP vars bs (rest.getD m 0) s with
         | true=>rfl
         | false=>exact absurd h h2
        have hsub:∀ e ∈ rest.eraseIdx m,e ∈ rest:=fun e h=>List.mem_of_mem_eraseIdx h;have hF:=ih (rest.eraseIdx m) (rsetP bs (rest.getD m 0) s) ((rest.getD m 0,s) :: qs) (by omega) (hfit.2 h2') (by
         rw[List.length_eraseIdx,if_pos hmr];rw[List.length_cons] at hl;omega) (fun e h=>he e (hsub e h)) (fun h0=>by
         rcases hm h0 with ⟨p,hp,hpo⟩ | h
         ·exact .inl ⟨p,List.mem_cons_of_mem _ hp,hpo⟩
         ·have:=(erase_perm rest m hmr).mem_iff.1 h;rcases List.mem_cons.1 this with h | h
          ·exact .inl ⟨(rest.getD m 0,s),by simp,by rw[h,hget m hmr]⟩
          ·exact .inr h)
        have hor:=toR_or i1 hF;refine⟨hor.congr fun v=>⟨fun h=>?_,fun ⟨i,hi,h⟩=>?_⟩,fun h=>?_⟩
        ·rcases h with ⟨i,hi,h⟩ | h
         ·exact⟨i,by omega,h⟩
         ·exact⟨m,by omega,hfit.1.1 h2',h⟩
        ·rcases Nat.lt_succ_iff_lt_or_eq.1 hi with hi | rfl
         ·exact .inl ⟨i,hi,h⟩
         ·exact .inr h.2
        ·dsimp only at h;rw[Bool.and_eq_true,decide_eq_true_eq,decide_eq_true_eq] at h;exact h
   refine (key rest.length (Nat.le_refl _)).1.congr fun v=>?_;rw[Tset.consA];constructor
   ·rintro⟨i,hi,hc',hT⟩;refine⟨rest.getD i 0,rest.eraseIdx i,?_,hc',hT⟩;rw[hget i hi];exact erase_perm rest i hi
   ·rintro⟨e,F,hE',hc',hT⟩;obtain⟨i,hi,rfl⟩:=List.getElem_of_mem (hE'.mem_iff.2 (by simp:e ∈ e :: F));rw[← hget i hi] at hE' hc' hT;refine⟨i,hi,hc',hT.permE ?_⟩;have p2:=erase_perm rest i hi;rw[← hget i hi] at p2;exact (List.perm_cons _).1 (hE'.symm.trans p2)
theorem rpermuted_min {vars:List (List Int)}{hood:List (Int × Int)}{ins:List Int}{out:Int}{inn:List Int}(hn:∀ s ∈ inn,0≤s)(he:∀ e ∈ ins,-(vars.length:Int)≤e)(ho:-(vars.length:Int)≤out)(hm:out < 0→out ∈ ins)(hl:ins.length=inn.length)(hcl:0≤ctrP hood→(ctrP hood).toNat < inn.length) :
  IsMin (PmT vars ins out inn (ctrP hood)) (toR (rpermutedP hood vars ins out inn)):=by
 unfold rpermutedP;obtain⟨c,hc⟩:∃ c,c=ctrP hood:=⟨_,rfl⟩
 rw[← hc] at hcl ⊢;have hlen:(offC ins ins.length c).length=(elL inn inn.length c inn.length).length:=by
  rw[elL_full];unfold offC;rw[List.length_map,List.length_map,hl]
 have hoff:∀ e ∈ offC ins ins.length c,-(vars.length:Int)≤e:=fun e h=>he e (offC_mem rfl h);unfold PmT ctrQ;by_cases h:0≤c
 ·rw[if_pos h,if_pos h];have hin:ins.getD c.toNat 0 ∈ ins:=by
   have:=hcl h;rw[List.getD_eq_getElem?_getD,List.getElem?_eq_getElem (by omega)];exact List.getElem_mem _
  have hs:=rfit_step (RfN.neg (N:=vars.length) (vars:=vars)) (he _ hin) (getD_mem_nn hn c.toNat);by_cases ha:rfitsP vars (List.replicate vars.length (-1)) (ins.getD c.toNat 0) (inn.getD c.toNat 0)=true
  ·rw[if_pos ha];have:=rperm_min (c:=c) hn ho inn.length (offC ins ins.length c) _ _ (Nat.le_refl _) (hs.2 ha) hlen hoff (fun h1=>by
    rcases mem_offC (c:=c) rfl (hm h1) with h2 | ⟨-,h2⟩
    ·exact .inr h2
    ·exact .inl ⟨_,List.mem_cons_self,h2.symm⟩)
   refine this.congr fun v=>?_;rw[elL_full,hl];exact⟨fun h=>⟨hs.1.1 ha,h⟩,fun h=>h.2⟩
  ·rw[if_neg ha];exact IsMin.none fun v hv=>ha (hs.1.2 hv.1)
 ·rw[if_neg h,if_neg h];have:=rperm_min (c:=c) hn ho inn.length (offC ins ins.length c) _ [] (Nat.le_refl _) (RfN.neg (N:=vars.length) (vars:=vars)) hlen hoff (fun h1=>by
    rcases mem_offC (c:=c) rfl (hm h1) with h2 | ⟨h3,-⟩
    ·exact .inr h2
    ·exact absurd h3 h)
  refine this.congr fun v=>?_;rw[elL_full,hl];exact⟨fun h=>⟨Con.nil,h⟩,fun h=>h.2⟩
theorem rdecide_eq {sym:Int}{hood:List (Int × Int)}{vars:List (List Int)}{ins:List Int}{out:Int}{inn:List Int}(hh:hoodB hood=true)(hp:permP hood sym=true)(h40:vars.length≤40)(hn:∀ s ∈ inn,0≤s)(he:∀ e ∈ ins,ElOk vars.length e)(ho:ElOk vars.length out)(hm:out < 0→out ∈ ins)(hl:ins.length=hood.length)(hi:inn.length=hood.length) :
  decideP sym hood vars ins out inn=toR (rdecideP sym hood vars ins out inn):=by
 have heN:∀ e ∈ ins,-(vars.length:Int)≤e:=fun e h=>by have:=(he e h).1;omega
 have hoN:-(vars.length:Int)≤out:=by have:=ho.1;omega
 have he40:∀ e ∈ ins,-40≤e:=fun e h=>by have:=heN e h;omega
 have ho40:-40≤out:=by omega
 have hd:=hood_nodup hh;unfold decideP rdecideP;by_cases h3:sym=3
 ·rw[if_pos h3,if_neg (by omega),if_pos h3];refine (permutedP_min hn he40 ho40 hm (by rw[hl,hi])).uniq (rpermuted_min hn heN hoN hm (by rw[hl,hi]) fun h=>?_);rcases ctr_lt15 hood with h1 | ⟨-,h2⟩
  ·omega
  ·omega
 ·rw[if_neg h3];have hc:∀ j,j < nSym sym→∀ q ∈ hood,symP (j:Int) q ∈ hood:=fun j hj=>syms_in hh hp h3 hj;have h1:=decTo_min (vars:=vars) (hood:=hood) hn he40 ho40 hm hl (nSym sym);by_cases h0:sym=0
  ·rw[if_pos h0];refine h1.uniq ((exact_min hn heN hoN hm (by rw[hl,hi])).congr fun v=>?_);have hn1:nSym sym=1:=by rw[h0];rfl
   rw[hn1];constructor
   ·intro h;refine⟨0,by omega,?_⟩;rw[show ((0:Nat):Int)=0 from rfl,turned0 hh hi];exact h
   ·rintro⟨j,hj,h⟩;obtain rfl:j=0:=by omega
    rw[show ((0:Nat):Int)=0 from rfl,turned0 hh hi] at h;exact h
  ·rw[if_neg h0,if_neg h3];have hk:nSym sym≤8:=by unfold nSym;split;omega;split <;> omega
   exact h1.uniq (rdecTo_min hn heN hoN hm hl hi hd (nSym sym) hk hc)
end Go.Proofs.YtlegfdllipkggaaGreatDoor
namespace Go.Proofs.YtlegfdllipkggaaGreatDoor
open Lib(hid)
open Go.RowKit Go.Sort
set_option maxRecDepth 100000
set_option linter.unusedVariables false
set_option linter.unusedSimpArgs false
theorem any_take {α:Type}(p:α→Bool){l:List α}{i:Nat}(h:i < l.length):(l.take (i+1)).any p=((l.take i).any p || p l[i]):=by
 rw[List.take_succ_eq_append_getElem h,List.any_append]
 simp
set_option maxHeartbeats 4000000 in
theorem rsyms_any (A:Option Addr)(ps:List (Int × Int))(c:Nat)(w:World)(hp:Pts w A ps) :
  Calls Tryz.prog 54 #[.slice A ps.length c] w fun e w'=>∃ v,e=.returned v∧OwnIA w' w.heap.size v (symsP ps)∧Below w.heap.size w w':=by
 have HCR:=hid (rhood_any A c ps w hp);have HP:=hid hp;have hn9:ps.length≤9223372036854775807:=hp.le;clear hp;cases hB:hoodB ps with
 | false=>
  have HE:Hid (symsP ps=[]):=hid (by unfold symsP;rw[if_neg (by rw[hB];simp)]);rw[hB] at HCR;clear hB;go_enter Tryz.func54,Tryz.ntmps54;go_wp2_with (go_at_call 31;refine HCR.out.mono ?_;rintro e w1 ⟨rfl,hb1⟩;refine Hid.out ?_);refine hid ?_;go_wp2;go_ret;exact⟨_,rfl,by rw[HE.out];exact OwnI.nil _ _ _,hb1⟩
 | true=>
  have HE:Hid (symsP ps=symsTo ps 8):=hid (by unfold symsP;rw[if_pos hB]);have HRN:=hid (hoodB_rng hB);rw[hB] at HCR;clear hB;go_enter Tryz.func54,Tryz.ntmps54;go_wp2_with (go_at_call 31;refine HCR.out.mono ?_;rintro e w1 ⟨rfl,hb1⟩;refine Hid.out ?_);refine hid ?_;have HB1:=hid hb1;clear hb1;go_wp2;go_loopw [3,4] (fun lv kv wr=>∃ k:Nat,k≤8∧kv=.int .i64 k∧Hid (OwnIA wr w.heap.size lv (symsTo ps k))∧Hid (Below w.heap.size w wr)) (fun _ kv _=>8 - (intOf kv).toNat)
  case atStart=>exact⟨0,Nat.zero_le _,rfl,hid (OwnI.nil _ _ _),HB1⟩
  case round=>
   obtain⟨k,hk,rfl,HO,HB⟩:=hrel;by_cases hkl:k < 8
   ·have HK:=hid hkl;have hwk:wrap64 ((k:Int)+1)=(k:Int)+1:=by unfold wrap64;omega
    have HWK:=hid hwk;have hd8:decide ((k:Int) < 8)=true:=decide_eq_true (by omega);clear hk hwk;go_upto_region 9 with fail
    clear hd8;go_loopw [5,6] (fun bv iv w2=>∃ i:Nat,i≤ps.length∧iv=.int .i64 i∧bv=.bool (!(ps.take i).any (outH ps (k:Int)))∧Hid (OwnIA w2 w.heap.size u3 (symsTo ps k))∧Hid (Below w.heap.size w w2)) (fun _ iv _=>ps.length - (intOf iv).toNat)
    case atStart=>exact⟨0,Nat.zero_le _,rfl,rfl,HO,HB⟩
    case round=>
     obtain⟨i,hi,rfl,rfl,HO2,HB2⟩:=hrel;by_cases hil:i < ps.length
     ·have hwi:wrap64 ((i:Int)+1)=(i:Int)+1:=by unfold wrap64;omega
      have HWI:=hid hwi;have HAT:=hid (any_take (outH ps (k:Int)) hil);obtain⟨b1,o1,e1,-,hc0,hc1⟩:=(HP.out.ext HB2.out).at_ hil;have hrr:=HRN.out ps[i] (List.getElem_mem hil);obtain⟨z,hz⟩:∃ z,z=ps[i]:=⟨_,rfl⟩
      rw[← hz] at hc0 hc1 hrr HAT;subst e1;obtain⟨x,y⟩:=z;dsimp only at hc0 hc1 hrr;have HI:=hid hil;clear hi hwi hz;cases hk:(ps.take i).any (outH ps (k:Int)) with
      | true=>
       have HN:Hid ((!(ps.take (i+1)).any (outH ps (k:Int)))=false):=hid (by rw[HAT.out,hk];rfl);clear hk;rw[show (!true)=false from rfl];go_wp2;go_roundw
       case rel=>exact⟨i+1,HI.out,(by first | rfl | (rw[HWI.out];rfl)),(by rw[HN.out]),HO2,HB2⟩
       case measure=>(try rw[HWI.out]);exact meas_step HI.out
      | false=>
       have hcall:=rapply_any (k:Int) x y wr ⟨by omega,by omega⟩ ⟨by omega,by omega⟩;obtain⟨z',hz'⟩:∃ z,z=symP (k:Int) (x,y):=⟨_,rfl⟩
       have hout:outH ps (k:Int) (x,y) = !decide (z' ∈ ps):=by rw[hz'];rfl
       rw[← hz'] at hcall;rw[hk,hout,Bool.false_or] at HAT;obtain⟨z1,z2⟩:=z';dsimp only at hcall;have HCALL:=hid hcall;clear hk hcall hz' hout hrr;rw[show (!false)=true from rfl];go_wp2_with (go_at_call 77;refine HCALL.out.mono ?_;rintro e w3 ⟨rfl,hb3⟩;refine Hid.out ?_);refine hid ?_;have HB3:=hid (HB2.out.trans (hb3.mono HB2.out.size));have HO3:=hid (HO2.out.ext hb3);clear hb3 hc0 hc1;have hcall:=ridx_any (some ⟨b1,o1,none⟩) ps c z1 z2 w3 (HP.out.ext HB3.out);have hmem:=idxF_mem (p:=(z1,z2)) ps 0;obtain⟨r,hr⟩:∃ r,r=idxF (z1,z2) 0 ps:=⟨_,rfl⟩
       rw[← hr] at hcall hmem;have HCALL2:=hid hcall;have HMEM:=hid hmem;clear hcall hmem hr HCALL;go_wp2_with (go_at_call 76;refine HCALL2.out.mono ?_;rintro e w4 ⟨rfl,hb4⟩;refine Hid.out ?_);refine hid ?_;have HB4:=hid (HB3.out.trans (hb4.mono HB3.out.size));have HO4:=hid (HO3.out.ext hb4);clear hb4;have HN:Hid ((!(ps.take (i+1)).any (outH ps (k:Int)))=decide (0≤r)):=hid (by
        rw[HAT.out,Bool.not_not];exact decide_eq_decide.2 HMEM.out.symm)
       go_wp2;go_roundw
       case rel=>exact⟨i+1,HI.out,(by first | rfl | (rw[HWI.out];rfl)),(by rw[HN.out]),HO4,HB4⟩
       case measure=>(try rw[HWI.out]);exact meas_step HI.out
     ·obtain rfl:i=ps.length:=Nat.le_antisymm hi (Nat.le_of_not_lt hil);rw[List.take_length];clear hi hil;cases hk:ps.any (outH ps (k:Int)) with
      | true=>
       have HST:Hid (OwnIA wr w.heap.size u3 (symsTo ps (k+1))):=hid (by rw[symsTo_no hk];exact HO2.out);clear hk;rw[show (!true)=false from rfl];go_wp2;go_roundw
       case rel=>exact⟨k+1,HK.out,(by first | rfl | (rw[HWK.out];rfl)),HST,HB2⟩
       case measure=>(try rw[HWK.out]);exact meas_step HK.out
      | false=>
       have HST:=hid (symsTo_yes hk);rw[show (!false)=true from rfl];have hown:=HO2.out;have hln:(symsTo ps k).length < 1000000000000:=by have:=symsTo_len ps k;have:=HK.out;omega
       have hbs:=HB2.out.size;clear hk;go_wp2_with (at_builtin;refine wpList_pushI rfl _ _ _ rfl w.heap.size 3 Tryz.underlying38 Tryz.infoInt _ _ rfl hown _ rfl hln hbs ?_);intro v' w7 ho' hb';have HO7:Hid (OwnIA w7 w.heap.size v' (symsTo ps (k+1))):=hid (by rw[HST.out];exact ho');have HB7:=hid (HB2.out.trans hb');clear ho' hb' hown hln hbs;go_wp2;go_roundw
       case rel=>exact⟨k+1,HK.out,(by first | rfl | (rw[HWK.out];rfl)),HO7,HB7⟩
       case measure=>(try rw[HWK.out]);exact meas_step HK.out
   ·obtain rfl:k=8:=Nat.le_antisymm hk (Nat.le_of_not_lt hkl);have hd8:decide (((8:Nat):Int) < 8)=false:=by decide
    clear hk hkl;go_wp2;go_ret;exact⟨_,rfl,by rw[HE.out];exact HO.out,HB.out⟩
set_option maxHeartbeats 4000000 in
theorem rpermits_any (A:Option Addr)(ps:List (Int × Int))(c:Nat)(sym:Int)(w:World)(hp:Pts w A ps) :
  Calls Tryz.prog 32 #[.slice A ps.length c,.int .i64 sym] w fun e w'=>e=.returned (.bool (permP ps sym))∧Below w.heap.size w w':=by
 have hcall:=rsyms_any A ps c w hp;obtain⟨l,hl⟩:∃ l,l=symsP ps:=⟨_,rfl⟩
 have hP:permP ps sym=if sym=0 then true else if sym=1 then decide ((1:Int) ∈ l) else if sym=2 then (l.length:Int) == 8 else if sym=3 then decide (ps.length≤9) else false:=by rw[hl];rfl
 obtain⟨r,hr⟩:∃ r,r=permP ps sym:=⟨_,rfl⟩
 rw[← hr];have HR:Hid (r=if sym=0 then true else if sym=1 then decide ((1:Int) ∈ l) else if sym=2 then (l.length:Int) == 8 else if sym=3 then decide (ps.length≤9) else false):=hid (hr.trans hP);have hl8:l.length≤8:=by
  rw[hl];unfold symsP
  split
  ·exact symsTo_len ps 8
  ·simp
 rw[← hl] at hcall;have HCALL:=hid hcall;have hn:=hp.le;clear hcall hl hP hp hr;by_cases h0:sym=0
 ·subst h0;go_enter Tryz.func32,Tryz.ntmps32;go_wp2;go_ret;exact⟨ret_bool (by rw[HR.out];simp),Below.refl _ _⟩
 ·have d0:(sym == 0)=false:=beq_false_of_ne h0;by_cases h3:sym=3
  ·subst h3;have HD:Hid (decide ((ps.length:Int)≤9)=decide (ps.length≤9)):=hid (decide_eq_decide.2 (by omega));clear h0;go_enter Tryz.func32,Tryz.ntmps32;go_wp2;go_ret;exact⟨ret_bool (by rw[HR.out];simp[HD.out]),Below.refl _ _⟩
  ·have d3:(sym == 3)=false:=beq_false_of_ne h3;go_enter Tryz.func32,Tryz.ntmps32;go_wp2_with (go_at_call 54;refine HCALL.out.mono ?_;rintro e w1 ⟨v,rfl,ho,hb⟩;refine Hid.out ?_);refine hid ?_;obtain⟨A5,c5,e5,hi5,-⟩:=ho.ints;subst e5;have HB:=hid hb;have HI:=hid hi5;have hl9:l.length≤9223372036854775807:=by omega
   clear ho hb hi5 HCALL hl8;by_cases h1:sym=1
   ·subst h1;have HC:Hid (Calls Tryz.prog 34 #[.slice A5 l.length c5,.int .i64 1] w1 fun e w'=>e=.returned (.bool (decide ((1:Int) ∈ l)))∧w1=w'):=hid ((has_any A5 l c5 1 w1 HI.out).mono fun e w' h=>⟨h.1,h.2.symm⟩);clear h0 h3;go_wp2_with (go_at_call 34;refine HC.out.mono ?_;rintro e w2 ⟨rfl,rfl⟩;refine Hid.out ?_);refine hid ?_;go_wp2;go_ret;exact⟨ret_bool (by rw[HR.out];simp[*]),HB.out⟩
   ·have d1:(sym == 1)=false:=beq_false_of_ne h1;by_cases h2:sym=2
    ·subst h2;clear h0 h1 h3;cases h8:((l.length:Int) == 8) with
     | true=>
      have HH8:=hid h8;go_wp2;go_ret;exact⟨ret_bool (by rw[HR.out];simp;simpa using HH8.out),HB.out⟩
     | false=>
      have HH8:=hid h8;go_wp2;go_ret;exact⟨ret_bool (by rw[HR.out];simp;simpa using HH8.out),HB.out⟩
    ·have d2:(sym == 2)=false:=beq_false_of_ne h2;have H0:=hid (And.intro h0 (And.intro h1 (And.intro h2 h3)));clear h0 h1 h2 h3;go_wp2;go_ret;exact⟨ret_bool (by rw[HR.out];rw[if_neg H0.out.1,if_neg H0.out.2.1,if_neg H0.out.2.2.1,if_neg H0.out.2.2.2]),HB.out⟩
end Go.Proofs.YtlegfdllipkggaaGreatDoor
namespace Go.Proofs.YtlegfdllipkggaaGreatDoor
open Lib(hid)
open Go.RowKit Go.Sort Go.Maps
set_option maxRecDepth 100000
set_option linter.unusedVariables false
set_option linter.unusedSimpArgs false
theorem rleast_any (a b:Int)(w:World):Calls Tryz.prog 99 #[.int .i64 a,.int .i64 b] w fun e w'=>e=.returned (.int .i64 (leastP a b))∧w'=w:=by
 obtain⟨r,hr⟩:∃ r,r=leastP a b:=⟨_,rfl⟩
 rw[← hr];unfold leastP at hr;have HR:=hid hr;clear hr;by_cases h1:a < 0
 ·have d1:decide (a < 0)=true:=decide_eq_true h1;have HE:Hid (r=b):=hid (by rw[HR.out,if_pos h1]);clear h1;go_enter Tryz.func99,Tryz.ntmps99;go_wp2;go_ret;exact⟨ret_int HE.out.symm,rfl⟩
 ·have d1:decide (a < 0)=false:=decide_eq_false h1;by_cases h2:b < 0
  ·have d2:decide (b < 0)=true:=decide_eq_true h2;have HE:Hid (r=a):=hid (by rw[HR.out,if_neg h1,if_pos h2]);clear h1 h2;go_enter Tryz.func99,Tryz.ntmps99;go_wp2;go_ret;exact⟨ret_int HE.out.symm,rfl⟩
  ·have d2:decide (b < 0)=false:=decide_eq_false h2;have HE:Hid (r=min a b):=hid (by rw[HR.out,if_neg h1,if_neg h2]);clear h1 h2;go_enter Tryz.func99,Tryz.ntmps99;go_wp2;go_ret;exact⟨ret_int HE.out.symm,rfl⟩
theorem rbind_step {vars:List (List Int)}{ins inn bs:List Int}{i:Nat}(h1:i < ins.length)(h2:i < inn.length):rbindAll vars (ins.drop i) (inn.drop i) bs=if rfitsP vars bs ins[i] inn[i]=true then rbindAll vars (ins.drop (i+1)) (inn.drop (i+1)) (rsetP bs ins[i] inn[i]) else none:=by
 rw[List.drop_eq_getElem_cons h1,List.drop_eq_getElem_cons h2];rfl
def negN (n i:Nat):List Int:=List.replicate i (-1) ++ List.replicate (n - i) 0
theorem negN_len {n i:Nat}(h:i≤n):(negN n i).length=n:=by unfold negN;simp;omega
theorem negN_step {n i:Nat}(h:i < n):(negN n i).set i (-1)=negN n (i+1):=by
 unfold negN;rw[List.set_append_right _ _ (by simp),List.length_replicate,Nat.sub_self,show n - i=(n - (i+1))+1 by omega,List.replicate_succ,List.set_cons_zero,List.replicate_succ']
 simp
theorem negN_full (n:Nat):negN n n=List.replicate n (-1):=by unfold negN;simp
theorem negN_zero (n:Nat):negN n 0=List.replicate n 0:=by unfold negN;simp
set_option maxHeartbeats 16000000 in
theorem rexact_any (hA:Option Addr)(hc:Nat)(vA:Option Addr)(vc:Nat)(rA:Option Addr)(rc:Nat)(t:TabH)(zA:Option Addr)(zc:Nat)(ins:List Int)(out:Int)(iA:Option Addr)(ic:Nat)(inn:List Int)(w:World)(hV:Vrs w vA t.vs)(h40:t.vs.length≤40)(hz:Ints w zA ins)(hi:Ints w iA inn)(hl:ins.length=inn.length)(h25:ins.length≤25)(he:∀ e ∈ ins,ElOk t.vs.length e)(ho:ElOk t.vs.length out) :
  Calls Tryz.prog 98 #[tabV hA hc vA vc rA rc t,.slice zA ins.length zc,.int .i64 out,.slice iA inn.length ic] w fun e w'=>e=.returned (.int .i64 (exactP (t.vs.map Vh.zs) ins out inn))∧Below w.heap.size w w':=by
 obtain⟨st,sym,hood,vs,rs⟩:=t;unfold tabV;dsimp only at hV h40 he ho ⊢;obtain⟨w0,hw0⟩:∃ w0,w0=w.alloc (.cells #[.int .i64 st,.int .i64 sym,.slice hA hood.length hc,.slice vA vs.length vc,.slice rA rs.length rc] 26):=⟨_,rfl⟩
 have hb0:Below w.heap.size w w0:=by rw[hw0];exact below_new _ _
 have p0:Blk w0 w.heap.size 26 #[.int .i64 st,.int .i64 sym,.slice hA hood.length hc,.slice vA vs.length vc,.slice rA rs.length rc]:=by rw[hw0];exact Blk.new _ _ _
 obtain⟨gT,hgT⟩:∃ g,g=w.heap.size:=⟨_,rfl⟩
 rw[← hgT] at p0;have HB0:=hid hb0;have HP:=hid p0;have HW0:=hid (And.intro hw0 hgT);have HV:=hid (hV.ext hb0);have HZ:=hid (And.intro (hz.ext hb0) (And.intro (hi.ext hb0) hl));have HE:=hid (And.intro he ho);obtain⟨vars,hvars⟩:∃ v,v=vs.map Vh.zs:=⟨_,rfl⟩
 rw[← hvars];have HVS:=hid hvars;have hvl:vars.length=vs.length:=by rw[hvars,List.length_map]
 have HVL:=hid (And.intro hvl h40);have HN25:=hid h25;obtain⟨res,hres⟩:∃ r,r=exactP vars ins out inn:=⟨_,rfl⟩
 rw[← hres];unfold exactP at hres;have HRES:=hid hres;have hin9:inn.length≤9223372036854775807:=hi.le;have hz9:ins.length≤9223372036854775807:=hz.le;have hv9:vs.length≤9223372036854775807:=hV.le;have c3:=p0.cell_ 3 (.slice vA vs.length vc) rfl;obtain⟨i0,hi0,hz0,hz1,hz2⟩:=info_parts Tryz.infoInt;have hmw:w0.heap.size≤w0.heap.size:=Nat.le_refl _;clear hb0 p0 hw0 hgT hV hz hi he ho hvars hl hres hvl h25;go_enter Tryz.func98,Tryz.ntmps98;go_upto_region 1 with fail
 rw[← HW0.out.1,← HW0.out.2];go_wp2_with (at_make;refine wpList_make_full _ rfl _ _ 38 rfl w0.heap.size 3 i0 _ 1 Tryz.underlying38 hi0 hz0 hz1 .i64 .i64 vs.length vs.length vs.length rfl rfl rfl rfl (by rw[hz2];omega) (by unfold maxLen;omega) hmw ?_);intro w1 ho1 hg1;have hb1:Below w0.heap.size w0 w1:=(Below.refl _ w0).grown hg1 (Nat.le_refl _) (by intro k hk;cases hk);have hr1:OwnIA w1 w0.heap.size (.slice (some ⟨w0.heap.size,0,none⟩) vs.length vs.length) (negN vs.length 0):=by
  unfold OwnIA OwnI;rw[negN_zero,List.length_replicate,List.map_replicate];rw[toList_madeCells_one] at ho1;exact ho1
 obtain⟨gO,hgO⟩:∃ g,g=w0.heap.size:=⟨_,rfl⟩
 have HGL:Hid (w0.heap.size≤gO):=hid (by rw[hgO];exact Nat.le_refl _);have HR1:Hid (OwnIA w1 w0.heap.size (.slice (some ⟨gO,0,none⟩) vs.length vs.length) (negN vs.length 0)):=hid (by rw[hgO];exact hr1);rw[← hgO];have HB1:=hid hb1;clear ho1 hg1 hb1 hr1 hgO hi0 hz0 hz1 hz2 hmw c3 h40;go_upto_region 3 with fail
 go_loopw [10] (fun iv wr=>∃ i:Nat,i≤vs.length∧iv=.int .i64 i∧Hid (OwnIA wr w0.heap.size (.slice (some ⟨gO,0,none⟩) vs.length vs.length) (negN vs.length i))∧Hid (Below w0.heap.size w0 wr)) (fun iv _=>vs.length - (intOf iv).toNat)
 case atStart=>exact⟨0,Nat.zero_le _,rfl,HR1,HB1⟩
 case round=>
  obtain⟨i,hi,rfl,HO,HBW⟩:=hrel;by_cases hil:i < vs.length
  ·have hwi:wrap64 ((i:Int)+1)=(i:Int)+1:=by have:=HVL.out.2;unfold wrap64;omega
   have HWI:=hid hwi;obtain⟨c0,f0⟩:=HO.out.cellk (k:=i) (by rw[negN_len hi];exact hil);have hset:=HO.out.set (by rw[negN_len hi]) i (-1);rw[negN_step hil] at hset;have HO2:=hid hset;have HB2:=hid (HBW.out.setCell (p:=⟨gO,i,none⟩) HGL.out (.int .i64 (-1)));have HI:=hid hil;clear hi hwi hset;go_wp2;go_roundw
   case rel=>exact⟨i+1,HI.out,(by first | rfl | (rw[HWI.out];rfl)),HO2,HB2⟩
   case measure=>(try rw[HWI.out]);exact meas_step HI.out
  ·obtain rfl:i=vs.length:=Nat.le_antisymm hi (Nat.le_of_not_lt hil);rw[negN_full] at HO;clear hi hil HR1 HB1;go_upto_region 7 with fail
   have HST0:Hid (rbindAll vars ins inn (List.replicate vs.length (-1))=rbindAll vars (ins.drop 0) (inn.drop 0) (List.replicate vs.length (-1))):=hid rfl;go_loopw [11] (fun iv wr=>∃ (i:Nat) (bs:List Int),i≤ins.length∧iv=.int .i64 i∧bs.length=vs.length∧Hid (OwnIA wr w0.heap.size (.slice (some ⟨gO,0,none⟩) vs.length vs.length) bs)∧Hid (Below w0.heap.size w0 wr)∧Hid (rbindAll vars ins inn (List.replicate vs.length (-1))=rbindAll vars (ins.drop i) (inn.drop i) bs)) (fun iv _=>ins.length - (intOf iv).toNat)
   case atStart=>exact⟨0,_,Nat.zero_le _,rfl,by simp,HO,HBW,HST0⟩
   case round=>
    clear HO HBW HST0;obtain⟨i,bs,hi,rfl,hbl,HO,HBW,HT⟩:=hrel;by_cases hil:i < ins.length
    ·have hil2:i < inn.length:=by rw[← HZ.out.2.2];exact hil
     obtain⟨zb,zo,ez,-,hcz⟩:=(HZ.out.1.ext HBW.out).at_ hil;obtain⟨ib,io,ei,-,hci⟩:=(HZ.out.2.1.ext HBW.out).at_ hil2;have hS:=HT.out.trans (rbind_step hil hil2);have hel:=HE.out.1 ins[i] (List.getElem_mem hil);obtain⟨e,hee⟩:∃ e,e=ins[i]:=⟨_,rfl⟩
     obtain⟨s,hss⟩:∃ s,s=inn[i]:=⟨_,rfl⟩
     rw[← hee] at hcz hel hS;rw[← hss] at hci hS;subst ez ei;have HI:=hid hil;have hwi:wrap64 ((i:Int)+1)=(i:Int)+1:=by unfold wrap64;omega
     have HWI:=hid hwi;have HBL:=hid hbl;have HNO:Hid (rfitsP vars bs e s=false→res = -1):=hid (fun h=>by
      rw[HRES.out,show vars.length=vs.length from HVL.out.1,hS,h];rfl)
     have HYES:Hid (rfitsP vars bs e s=true→rbindAll vars ins inn (List.replicate vs.length (-1))=rbindAll vars (ins.drop (i+1)) (inn.drop (i+1)) (rsetP bs e s)):=hid (fun h=>by rw[hS,h];rfl);clear hi hee hss hS hbl hwi;by_cases h0:0≤e
     ·have d0:decide (0≤e)=true:=decide_eq_true h0;have hF:rfitsP vars bs e s=(e == s):=if_pos h0;have hG:rsetP bs e s=bs:=if_pos h0;rw[hF,hG] at HYES;rw[hF] at HNO;clear hF hG h0;by_cases hes:e=s
      ·subst hes;have HT2:Hid (rbindAll vars ins inn (List.replicate vs.length (-1))=rbindAll vars (ins.drop (i+1)) (inn.drop (i+1)) bs):=hid (HYES.out (by simp));go_wp2;go_quiet (fail)
       have HON:Hid (OwnIA (wr.drewN nq) w0.heap.size (.slice (some ⟨gO,0,none⟩) vs.length vs.length) bs):=hid HO.out;have HBN:=hid (below_drewN HBW.out nq);go_wp2;go_roundw
       case rel=>exact⟨i+1,bs,HI.out,(by first | rfl | (rw[HWI.out];rfl)),HBL.out,HON,HBN,HT2⟩
       case measure=>(try rw[HWI.out]);exact meas_step HI.out
      ·have d1:(e != s)=true:=by simp[hes]
       have d2:(e == s)=false:=beq_false_of_ne hes;have HF:Hid (res = -1):=hid (HNO.out d2);clear hes;go_wp2;go_quiet (fail)
       go_wp2;go_ret;exact⟨ret_int HF.out.symm,HB0.out.trans ((below_drewN HBW.out _).mono HB0.out.size)⟩
     ·have d0:decide (0≤e)=false:=decide_eq_false h0;have hvl:=hel.1 (by omega);obtain⟨v,hv⟩:∃ v:Nat,-1 - e=(v:Int):=⟨(-1 - e).toNat,by omega⟩
      have hv':(-1 - e).toNat=v:=by omega
      rw[hv'] at hvl;have hwv:wrap64 (-1 - e)=(v:Int):=by have:=HVL.out.2;unfold wrap64;omega
      have HWV:=hid hwv;have hF:rfitsP vars bs e s=(decide (s ∈ vars.getD v []) && (decide (bs.getD v 0 < 0) || bs.getD v 0 == s)):=by unfold rfitsP;rw[if_neg h0,hv']
      have hG:rsetP bs e s=bs.set v s:=by unfold rsetP;rw[if_neg h0,hv']
      rw[hF,hG] at HYES;rw[hF] at HNO;obtain⟨vb,vo,ea,-,hca,hia⟩:=(HV.out.ext HBW.out).at_ hvl;obtain⟨xh,hxh⟩:∃ z,z=vs[v]:=⟨_,rfl⟩
      rw[← hxh] at hca hia;have hget:vars.getD v []=xh.zs:=by rw[HVS.out,hxh,List.getD_eq_getElem?_getD,List.getElem?_map,List.getElem?_eq_getElem hvl];rfl
      rw[hget] at HYES HNO;obtain⟨xA,xc,zs⟩:=xh;dsimp only at hca hia HYES HNO;subst ea;have x3:=(HP.out.below HBW.out HP.out.lt).cell_ 3 (.slice (some ⟨vb,vo,none⟩) vs.length vc) rfl;have HVV:=hid hvl;obtain⟨cb,fb⟩:=HO.out.cellk (k:=v) (by rw[HBL.out];exact hvl);obtain⟨bz,hbz⟩:∃ z,z=bs.getD v 0:=⟨_,rfl⟩
      rw[← hbz] at cb HYES HNO;have hhas:=fun k=>has_any xA zs xc s (wr.drewN k) hia;clear hF hG h0 hel hv hv' hxh hget hbz hia;by_cases hm:s ∈ zs
      ·rw[decide_eq_true hm] at HYES HNO hhas;have HAS:=hid hhas;clear hm hhas;by_cases h1:bz < 0
       ·have d1:decide (0≤bz)=false:=decide_eq_false (by omega);have d1':¬ 0≤bz:=by omega
        have HT2:Hid (rbindAll vars ins inn (List.replicate vs.length (-1))=rbindAll vars (ins.drop (i+1)) (inn.drop (i+1)) (bs.set v s)):=hid (HYES.out (by rw[decide_eq_true h1];rfl));clear h1;go_wp2;go_quiet ((go_at_call 34;exact Calls.quiet_of ((HAS.out _).mono fun _ _ h=>⟨h.1,0,h.2⟩)))
        have HON:Hid (OwnIA (wr.drewN nq) w0.heap.size (.slice (some ⟨gO,0,none⟩) vs.length vs.length) bs):=hid HO.out;have HBN:=hid (below_drewN HBW.out nq);obtain⟨w5,hw5⟩:∃ W,W=wr.drewN nq:=⟨_,rfl⟩
        have hci5:w5.cell? ⟨ib,io+i,none⟩=some (.int .i64 s):=by rw[hw5];exact hci
        rw[← hw5] at HON HBN ⊢;clear hw5 hci cb fb x3 hca hcz;obtain⟨cb,fb⟩:=HON.out.cellk (k:=v) (by rw[HBL.out];exact HVV.out);have HO6:=hid (HON.out.set (by rw[HBL.out]) v s);have HB6:=hid (HBN.out.setCell (p:=⟨gO,v,none⟩) HGL.out (.int .i64 s));have HBL6:Hid ((bs.set v s).length=vs.length):=hid (by rw[List.length_set];exact HBL.out);go_wp2;go_roundw
        case rel=>exact⟨i+1,bs.set v s,HI.out,(by first | rfl | (rw[HWI.out];rfl)),HBL6.out,HO6,HB6,HT2⟩
        case measure=>(try rw[HWI.out]);exact meas_step HI.out
       ·have d1:decide (0≤bz)=true:=decide_eq_true (by omega);by_cases h2:bz=s
        ·subst h2;have HT2:Hid (rbindAll vars ins inn (List.replicate vs.length (-1))=rbindAll vars (ins.drop (i+1)) (inn.drop (i+1)) (bs.set v bz)):=hid (HYES.out (by simp));clear h1;go_wp2;go_quiet ((go_at_call 34;exact Calls.quiet_of ((HAS.out _).mono fun _ _ h=>⟨h.1,0,h.2⟩)))
         have HON:Hid (OwnIA (wr.drewN nq) w0.heap.size (.slice (some ⟨gO,0,none⟩) vs.length vs.length) bs):=hid HO.out;have HBN:=hid (below_drewN HBW.out nq);obtain⟨w5,hw5⟩:∃ W,W=wr.drewN nq:=⟨_,rfl⟩
         have hci5:w5.cell? ⟨ib,io+i,none⟩=some (.int .i64 bz):=by rw[hw5];exact hci
         rw[← hw5] at HON HBN ⊢;clear hw5 hci cb fb x3 hca hcz;obtain⟨cb,fb⟩:=HON.out.cellk (k:=v) (by rw[HBL.out];exact HVV.out);have HO6:=hid (HON.out.set (by rw[HBL.out]) v bz);have HB6:=hid (HBN.out.setCell (p:=⟨gO,v,none⟩) HGL.out (.int .i64 bz));have HBL6:Hid ((bs.set v bz).length=vs.length):=hid (by rw[List.length_set];exact HBL.out);go_wp2;go_roundw
         case rel=>exact⟨i+1,bs.set v bz,HI.out,(by first | rfl | (rw[HWI.out];rfl)),HBL6.out,HO6,HB6,HT2⟩
         case measure=>(try rw[HWI.out]);exact meas_step HI.out
        ·have d2:(bz != s)=true:=by simp[h2]
         have HF:Hid (res = -1):=hid (HNO.out (by rw[decide_eq_false h1,beq_false_of_ne h2];rfl));clear h1 h2;go_wp2;go_quiet ((go_at_call 34;exact Calls.quiet_of ((HAS.out _).mono fun _ _ h=>⟨h.1,0,h.2⟩)))
         go_wp2;go_ret;exact⟨ret_int HF.out.symm,HB0.out.trans ((below_drewN HBW.out _).mono HB0.out.size)⟩
      ·rw[decide_eq_false hm] at HNO hhas;have HAS:=hid hhas;have HF:Hid (res = -1):=hid (HNO.out rfl);clear hm hhas;go_wp2;go_quiet ((go_at_call 34;exact Calls.quiet_of ((HAS.out _).mono fun _ _ h=>⟨h.1,0,h.2⟩)))
       go_wp2;go_ret;exact⟨ret_int HF.out.symm,HB0.out.trans ((below_drewN HBW.out _).mono HB0.out.size)⟩
    ·obtain rfl:i=ins.length:=Nat.le_antisymm hi (Nat.le_of_not_lt hil);have hfin:=HT.out;rw[List.drop_length] at hfin;have HRR:Hid (res=outP bs out):=hid (by rw[HRES.out,show vars.length=vs.length from HVL.out.1,hfin];rfl);clear hi hil hfin;by_cases h0:0≤out
     ·have d0:decide (0≤out)=true:=decide_eq_true h0;have HF:Hid (res=out):=hid (by rw[HRR.out];unfold outP;rw[if_pos h0]);clear h0;go_wp2;go_ret;exact⟨ret_int HF.out.symm,HB0.out.trans (HBW.out.mono HB0.out.size)⟩
     ·have d0:decide (0≤out)=false:=decide_eq_false h0;have hvl:=HE.out.2.1 (by omega);obtain⟨v,hv⟩:∃ v:Nat,-1 - out=(v:Int):=⟨(-1 - out).toNat,by omega⟩
      have hv':(-1 - out).toNat=v:=by omega
      rw[hv'] at hvl;have hwv:wrap64 (-1 - out)=(v:Int):=by have:=HVL.out.2;unfold wrap64;omega
      have HF:Hid (res=bs.getD v 0):=hid (by rw[HRR.out];unfold outP;rw[if_neg h0,hv']);obtain⟨cb,fb⟩:=HO.out.cellk (k:=v) (by rw[hbl];exact hvl);obtain⟨bz,hbz⟩:∃ z,z=bs.getD v 0:=⟨_,rfl⟩
      rw[← hbz] at cb HF;clear h0 hv hv' hbz hbl;go_wp2;go_ret;exact⟨ret_int HF.out.symm,HB0.out.trans (HBW.out.mono HB0.out.size)⟩
end Go.Proofs.YtlegfdllipkggaaGreatDoor
namespace Go.Proofs.YtlegfdllipkggaaGreatDoor
open Lib(hid)
set_option linter.unusedSimpArgs false
open Go.RowKit
set_option maxRecDepth 100000
set_option linter.unusedVariables false
set_option maxHeartbeats 800000 in
theorem rcentre_any (A:Option Addr)(ps:List (Int × Int))(c:Nat)(w:World)(ha:Pts w A ps) :
  Calls Tryz.prog 101 #[.slice A ps.length c] w fun e w'=>e=.returned (.int .i64 (ctrP ps))∧Below w.heap.size w w':=by
 have HH:=hid (rhood_any A c ps w ha);have HX:=hid (fun W (hb:Below w.heap.size w W)=>ridx_any A ps c 0 0 W (ha.ext hb));have hn:=ha.le;cases hB:hoodB ps with
 | false=>
  have HE:Hid (ctrP ps = -1):=hid (by unfold ctrP;rw[hB];rfl);go_enter Tryz.func101,Tryz.ntmps101;go_wp2_with fail;refine HH.out.mono ?_;rintro e w1 ⟨rfl,hb1⟩;rw[hB];go_wp2;go_ret;exact⟨ret_int HE.out.symm,hb1⟩
 | true=>
  have HE:Hid (ctrP ps=idxF (0,0) 0 ps):=hid (by unfold ctrP;rw[hB];rfl);go_enter Tryz.func101,Tryz.ntmps101;go_wp2_with fail;refine HH.out.mono ?_;rintro e w1 ⟨rfl,hb1⟩;rw[hB];go_wp2_with fail;refine (HX.out w1 hb1).mono ?_;rintro e w2 ⟨rfl,hb2⟩;go_wp2;go_ret;exact⟨ret_int HE.out.symm,hb1.trans (hb2.mono hb1.size)⟩
end Go.Proofs.YtlegfdllipkggaaGreatDoor
