/-
  texts PermS Tree15: parts of the proof; conditions stand with each theorem.
-/
import Derived.Test.YtlegfdllipkggaaGreatDoorWG14
import Derived.Test.YtlegfdllipkggaaGreatDoorWG12
import Derived.Test.YtlegfdllipkggaaGreatDoorWG8
namespace Go.Proofs.YtlegfdllipkggaaGreatDoor
set_option maxRecDepth 100000
set_option linter.unusedVariables false
set_option linter.unusedSimpArgs false
def Con (vars:List (List Int))(ps:List (Int × Int)):Prop:=
 (∀ p ∈ ps,0≤p.1→p.1=p.2)∧(∀ p ∈ ps,p.1 < 0→p.2 ∈ vars.getD (-1 - p.1).toNat [])∧(∀ p ∈ ps,∀ q ∈ ps,p.1 < 0→p.1=q.1→p.2=q.2)
theorem Con.sub {vars:List (List Int)}{ps qs:List (Int × Int)}(h:Con vars qs)(hs:∀ p ∈ ps,p ∈ qs):Con vars ps:=
 ⟨fun p hp=>h.1 p (hs p hp),fun p hp=>h.2.1 p (hs p hp),fun p hp q hq=>h.2.2 p (hs p hp) q (hs q hq)⟩
theorem Con.nil {vars:List (List Int)}:Con vars []:=⟨by simp,by simp,by simp⟩
structure Rf (vars:List (List Int))(bs:List Int)(qs:List (Int × Int)):Prop where
 len:bs.length=40
 con:Con vars qs
 nn:∀ p ∈ qs,0≤p.2
 el:∀ p ∈ qs,-40≤p.1
 at_:∀ v:Nat,v < 40→(∃ p ∈ qs,p.1 = -1 - (v:Int)∧bs.getD v 0=p.2)∨((∀ p ∈ qs,p.1≠-1 - (v:Int))∧bs.getD v 0 = -1)
theorem getD_set_eq {bs:List Int}{v:Nat}{s:Int}(h:v < bs.length):(bs.set v s).getD v 0=s:=by
 rw[List.getD_eq_getElem?_getD,List.getElem?_set_self h];rfl
theorem getD_set_ne {bs:List Int}{v u:Nat}{s:Int}(h:v≠u):(bs.set v s).getD u 0=bs.getD u 0:=by
 rw[List.getD_eq_getElem?_getD,List.getD_eq_getElem?_getD,List.getElem?_set_ne h]
theorem acc_step {vars:List (List Int)}{bs:List Int}{qs:List (Int × Int)}(h:Rf vars bs qs){e s:Int}(he:-40≤e)(hs:0≤s) :
  ((acceptP vars bs e s).1=true ↔ Con vars ((e,s) :: qs))∧((acceptP vars bs e s).1=true→Rf vars (acceptP vars bs e s).2.2 ((e,s) :: qs)):=by
 have hfin:∀ b':List Int,Con vars ((e,s) :: qs)→b'.length=40→(∀ v:Nat,v < 40→(∃ p ∈ (e,s) :: qs,p.1 = -1 - (v:Int)∧b'.getD v 0=p.2)∨((∀ p ∈ (e,s) :: qs,p.1≠-1 - (v:Int))∧b'.getD v 0 = -1))→Rf vars b' ((e,s) :: qs):=fun b' hc hl ha=>
  ⟨hl,hc,fun p hp=>by rcases List.mem_cons.1 hp with rfl | hp;exact hs;exact h.nn p hp,fun p hp=>by rcases List.mem_cons.1 hp with rfl | hp;exact he;exact h.el p hp,ha⟩
 unfold acceptP;by_cases h0:0≤e
 ·rw[if_pos h0];dsimp only;have hiff:(e == s)=true ↔ Con vars ((e,s) :: qs):=by
   rw[beq_iff_eq];constructor
   ·rintro rfl;refine⟨fun p hp hp0=>?_,fun p hp hp0=>?_,fun p hp q hq hp0 hpq=>?_⟩
    ·rcases List.mem_cons.1 hp with rfl | hp
     ·rfl
     ·exact h.con.1 p hp hp0
    ·rcases List.mem_cons.1 hp with rfl | hp
     ·dsimp only at hp0;omega
     ·exact h.con.2.1 p hp hp0
    ·rcases List.mem_cons.1 hp with rfl | hp
     ·dsimp only at hp0;omega
     ·rcases List.mem_cons.1 hq with rfl | hq
      ·dsimp only at hpq;omega
      ·exact h.con.2.2 p hp q hq hp0 hpq
   ·intro hc;exact hc.1 (e,s) (by simp) h0
  refine⟨hiff,fun hk=>hfin bs (hiff.1 hk) h.len fun v hv=>?_⟩;rcases h.at_ v hv with ⟨p,hp,h1,h2⟩ | ⟨h1,h2⟩
  ·exact .inl ⟨p,List.mem_cons_of_mem _ hp,h1,h2⟩
  ·refine .inr ⟨fun p hp=>?_,h2⟩;rcases List.mem_cons.1 hp with rfl | hp
   ·dsimp only;omega
   ·exact h1 p hp
 ·rw[if_neg h0];obtain⟨v,hv⟩:∃ v:Nat,-1 - e=(v:Int):=⟨(-1 - e).toNat,by omega⟩
  have hv':(-1 - e).toNat=v:=by omega
  have hev:e = -1 - (v:Int):=by omega
  have hv40:v < 40:=by omega
  rw[hv'];by_cases h1:0≤bs.getD v 0
  ·rw[if_pos h1];dsimp only;obtain⟨p,hp,p1,p2⟩:∃ p ∈ qs,p.1 = -1 - (v:Int)∧bs.getD v 0=p.2:=by
    rcases h.at_ v hv40 with h2 | ⟨-,h2⟩
    ·exact h2
    ·omega
   have hiff:(bs.getD v 0 == s)=true ↔ Con vars ((e,s) :: qs):=by
    rw[beq_iff_eq,p2];constructor
    ·rintro rfl;have:(e,p.2) ∈ qs:=by
      have:(e,p.2)=p:=Prod.ext (by rw[hev,p1]) rfl;rw[this];exact hp
     exact h.con.sub fun q hq=>by
      rcases List.mem_cons.1 hq with rfl | hq
      ·exact this
      ·exact hq
    ·intro hc;exact (hc.2.2 (e,s) (by simp) p (by simp[hp]) (by dsimp only;omega) (by dsimp only;rw[p1,hev])).symm
   refine⟨hiff,fun hk=>hfin bs (hiff.1 hk) h.len fun u hu=>?_⟩;rcases h.at_ u hu with ⟨q,hq,h3,h4⟩ | ⟨h3,h4⟩
   ·exact .inl ⟨q,List.mem_cons_of_mem _ hq,h3,h4⟩
   ·refine .inr ⟨fun q hq=>?_,h4⟩;rcases List.mem_cons.1 hq with rfl | hq
    ·dsimp only;intro hh;exact h3 p hp (by rw[p1,← hev,hh])
    ·exact h3 q hq
  ·rw[if_neg h1];have hno:∀ p ∈ qs,p.1≠-1 - (v:Int):=by
    rcases h.at_ v hv40 with ⟨p,hp,-,h2⟩ | ⟨h2,-⟩
    ·have:=h.nn p hp;omega
    ·exact h2
   by_cases hm:s ∈ vars.getD v []
   ·rw[if_pos hm];dsimp only;have hc:Con vars ((e,s) :: qs):=by
     refine⟨fun p hp hp0=>?_,fun p hp hp0=>?_,fun p hp q hq hp0 hpq=>?_⟩
     ·rcases List.mem_cons.1 hp with rfl | hp
      ·dsimp only at hp0;omega
      ·exact h.con.1 p hp hp0
     ·rcases List.mem_cons.1 hp with rfl | hp
      ·dsimp only;rw[hv'];exact hm
      ·exact h.con.2.1 p hp hp0
     ·rcases List.mem_cons.1 hp with rfl | hp
      ·rcases List.mem_cons.1 hq with rfl | hq
       ·rfl
       ·exact absurd hpq.symm (by dsimp only;rw[hev];exact hno q hq)
      ·rcases List.mem_cons.1 hq with rfl | hq
       ·exact absurd hpq (by dsimp only;rw[hev];exact hno p hp)
       ·exact h.con.2.2 p hp q hq hp0 hpq
    refine⟨⟨fun _=>hc,fun _=>rfl⟩,fun _=>hfin _ hc (by rw[List.length_set];exact h.len) fun u hu=>?_⟩;by_cases huv:v=u
    ·subst huv;exact .inl ⟨(e,s),by simp,hev,getD_set_eq (by rw[h.len];exact hv40)⟩
    ·rw[getD_set_ne huv];rcases h.at_ u hu with ⟨q,hq,h3,h4⟩ | ⟨h3,h4⟩
     ·exact .inl ⟨q,List.mem_cons_of_mem _ hq,h3,h4⟩
     ·refine .inr ⟨fun q hq=>?_,h4⟩;rcases List.mem_cons.1 hq with rfl | hq
      ·dsimp only;omega
      ·exact h3 q hq
   ·rw[if_neg hm];dsimp only;refine⟨⟨fun hh=>(by cases hh),fun hc=>absurd (hc.2.1 (e,s) (by simp) (by dsimp only;omega)) (by dsimp only;rw[hv'];exact hm)⟩,fun hh=>by cases hh⟩
def valO (out:Int)(ps:List (Int × Int))(v:Int):Prop:=if 0≤out then v=out else ∃ p ∈ ps,p.1=out∧v=p.2
theorem valO.sub {out:Int}{ps qs:List (Int × Int)}{v:Int}(h:valO out ps v)(hs:∀ p ∈ ps,p ∈ qs):valO out qs v:=by
 unfold valO at h ⊢
 split
 ·rename_i h0;rw[if_pos h0] at h;exact h
 ·rename_i h0;rw[if_neg h0] at h;obtain⟨p,hp,h1,h2⟩:=h;exact⟨p,hs p hp,h1,h2⟩
theorem Rf.val {vars:List (List Int)}{bs:List Int}{qs:List (Int × Int)}(h:Rf vars bs qs){out:Int}(ho:-40≤out)(hm:out < 0→∃ p ∈ qs,p.1=out)(v:Int):valO out qs v ↔ v=outP bs out:=by
 unfold valO outP
 split
 ·exact Iff.rfl
 ·rename_i h0;obtain⟨u,hu⟩:∃ u:Nat,-1 - out=(u:Int):=⟨(-1 - out).toNat,by omega⟩
  have hu':(-1 - out).toNat=u:=by omega
  rw[hu'];obtain⟨p,hp,hpo⟩:=hm (by omega);have hg:bs.getD u 0=p.2:=by
   rcases h.at_ u (by omega) with ⟨q,hq,h3,h4⟩ | ⟨h3,-⟩
   ·rw[h4];exact h.con.2.2 q hq p hp (by omega) (by omega)
   ·exact absurd (show p.1 = -1 - (u:Int) by omega) (h3 p hp)
  rw[hg];constructor
  ·rintro⟨q,hq,h1,h2⟩;rw[h2];exact h.con.2.2 q hq p hp (by omega) (by omega)
  ·intro h1;exact⟨p,hp,hpo,h1⟩
def IsMin (T:Int→Prop)(r:Int × Bool):Prop:=(r=(0,false)∧∀ v,¬ T v)∨(r.2=true∧T r.1∧∀ v,T v→r.1≤v)
theorem IsMin.congr {T U:Int→Prop}{r:Int × Bool}(h:IsMin T r)(e:∀ v,T v ↔ U v):IsMin U r:=by
 rcases h with ⟨h1,h2⟩ | ⟨h1,h2,h3⟩
 ·exact .inl ⟨h1,fun v hv=>h2 v ((e v).2 hv)⟩
 ·exact .inr ⟨h1,(e _).1 h2,fun v hv=>h3 v ((e v).2 hv)⟩
theorem IsMin.uniq {T:Int→Prop}{r q:Int × Bool}(h:IsMin T r)(k:IsMin T q):r=q:=by
 rcases h with ⟨h1,h2⟩ | ⟨h1,h2,h3⟩
 ·rcases k with ⟨k1,-⟩ | ⟨-,k2,-⟩
  ·rw[h1,k1]
  ·exact absurd k2 (h2 _)
 ·rcases k with ⟨-,k2⟩ | ⟨k1,k2,k3⟩
  ·exact absurd h2 (k2 _)
  ·exact Prod.ext (Int.le_antisymm (h3 _ k2) (k3 _ h2)) (by rw[h1,k1])
theorem IsMin.better {T:Int→Prop}{r:Int × Bool}(h:IsMin T r)(n:Int):IsMin (fun v=>T v∨v=n) (better r n):=by
 unfold Proofs.YtlegfdllipkggaaGreatDoor.better;rcases h with ⟨h1,h2⟩ | ⟨h1,h2,h3⟩
 ·rw[if_pos (.inl (by rw[h1]))];exact .inr ⟨rfl,.inr rfl,fun v hv=>by rcases hv with hv | rfl;exact absurd hv (h2 v);exact Int.le_refl _⟩
 ·by_cases hn:n < r.1
  ·rw[if_pos (.inr hn)];exact .inr ⟨rfl,.inr rfl,fun v hv=>by
    rcases hv with hv | rfl
    ·have:=h3 v hv;dsimp only;omega
    ·exact Int.le_refl _⟩
  ·rw[if_neg (by rintro (h | h);rw[h1] at h;cases h;exact hn h)];exact .inr ⟨h1,.inl h2,fun v hv=>by
    rcases hv with hv | rfl
    ·exact h3 v hv
    ·omega⟩
theorem IsMin.none {T:Int→Prop}(h:∀ v,¬ T v):IsMin T (0,false):=.inl ⟨rfl,h⟩
def Tset (vars:List (List Int))(out:Int)(qs:List (Int × Int))(E A:List Int)(v:Int):Prop:=
 ∃ ps:List (Int × Int),(ps.map Prod.fst).Perm E∧(ps.map Prod.snd).Perm A∧Con vars (ps ++ qs)∧valO out (ps ++ qs) v
theorem Tset.permA {vars:List (List Int)}{out:Int}{qs:List (Int × Int)}{E A B:List Int}{v:Int}(h:Tset vars out qs E A v)(hp:A.Perm B):Tset vars out qs E B v:=by
 obtain⟨ps,h1,h2,h3⟩:=h;exact⟨ps,h1,h2.trans hp,h3⟩
theorem Tset.permE {vars:List (List Int)}{out:Int}{qs:List (Int × Int)}{E F A:List Int}{v:Int}(h:Tset vars out qs E A v)(hp:E.Perm F):Tset vars out qs F A v:=by
 obtain⟨ps,h1,h2,h3⟩:=h;exact⟨ps,h1.trans hp,h2,h3⟩
theorem Tset.consE {vars:List (List Int)}{out:Int}{qs:List (Int × Int)}{e:Int}{E A:List Int}{v:Int} :
  Tset vars out qs (e :: E) A v ↔ ∃ s B,A.Perm (s :: B)∧Con vars ((e,s) :: qs)∧Tset vars out ((e,s) :: qs) E B v:=by
 constructor
 ·rintro⟨ps,h1,h2,h3,h4⟩;have:e ∈ ps.map Prod.fst:=h1.mem_iff.2 (by simp);obtain⟨p,hp,rfl⟩:=List.mem_map.1 this;have hpe:=List.perm_cons_erase hp;have g1:((ps.erase p).map Prod.fst).Perm E:=by
   have:=(hpe.map Prod.fst).symm.trans h1;rw[List.map_cons] at this;exact (List.perm_cons p.1).1 this
  refine⟨p.2,(ps.erase p).map Prod.snd,?_,?_,ps.erase p,g1,List.Perm.refl _,?_,?_⟩
  ·have:=h2.symm.trans (hpe.map Prod.snd);rwa [List.map_cons] at this
  ·exact h3.sub fun q hq=>by
    rcases List.mem_cons.1 hq with rfl | hq
    ·exact List.mem_append_left _ hp
    ·exact List.mem_append_right _ hq
  ·exact h3.sub fun q hq=>by
    rcases List.mem_append.1 hq with hq | hq
    ·exact List.mem_append_left _ (List.mem_of_mem_erase hq)
    ·rcases List.mem_cons.1 hq with rfl | hq
     ·exact List.mem_append_left _ hp
     ·exact List.mem_append_right _ hq
  ·exact h4.sub fun q hq=>by
    rcases List.mem_append.1 hq with hq | hq
    ·rcases List.mem_cons.1 (hpe.mem_iff.1 hq) with rfl | hq
     ·exact List.mem_append_right _ (by simp)
     ·exact List.mem_append_left _ hq
    ·exact List.mem_append_right _ (List.mem_cons_of_mem _ hq)
 ·rintro⟨s,B,hA,hc,ps,h1,h2,h3,h4⟩;refine⟨(e,s) :: ps,?_,?_,h3.sub ?_,h4.sub ?_⟩
  ·rw[List.map_cons];exact (List.perm_cons e).2 h1
  ·rw[List.map_cons];exact ((List.perm_cons s).2 h2).trans hA.symm
  ·intro q hq;rw[List.cons_append] at hq;rcases List.mem_cons.1 hq with rfl | hq
   ·exact List.mem_append_right _ (by simp)
   ·rcases List.mem_append.1 hq with hq | hq
    ·exact List.mem_append_left _ hq
    ·exact List.mem_append_right _ (List.mem_cons_of_mem _ hq)
  ·intro q hq;rw[List.cons_append];rcases List.mem_append.1 hq with hq | hq
   ·exact List.mem_cons_of_mem _ (List.mem_append_left _ hq)
   ·rcases List.mem_cons.1 hq with rfl | hq
    ·simp
    ·exact List.mem_cons_of_mem _ (List.mem_append_right _ hq)
theorem Tset.consA {vars:List (List Int)}{out:Int}{qs:List (Int × Int)}{s:Int}{E A:List Int}{v:Int} :
  Tset vars out qs E (s :: A) v ↔ ∃ e F,E.Perm (e :: F)∧Con vars ((e,s) :: qs)∧Tset vars out ((e,s) :: qs) F A v:=by
 constructor
 ·rintro⟨ps,h1,h2,h3,h4⟩;have:s ∈ ps.map Prod.snd:=h2.mem_iff.2 (by simp);obtain⟨p,hp,rfl⟩:=List.mem_map.1 this;have hpe:=List.perm_cons_erase hp;have g1:((ps.erase p).map Prod.snd).Perm A:=by
   have:=(hpe.map Prod.snd).symm.trans h2;rw[List.map_cons] at this;exact (List.perm_cons p.2).1 this
  refine⟨p.1,(ps.erase p).map Prod.fst,?_,?_,ps.erase p,List.Perm.refl _,g1,?_,?_⟩
  ·have:=h1.symm.trans (hpe.map Prod.fst);rwa [List.map_cons] at this
  ·exact h3.sub fun q hq=>by
    rcases List.mem_cons.1 hq with rfl | hq
    ·exact List.mem_append_left _ hp
    ·exact List.mem_append_right _ hq
  ·exact h3.sub fun q hq=>by
    rcases List.mem_append.1 hq with hq | hq
    ·exact List.mem_append_left _ (List.mem_of_mem_erase hq)
    ·rcases List.mem_cons.1 hq with rfl | hq
     ·exact List.mem_append_left _ hp
     ·exact List.mem_append_right _ hq
  ·exact h4.sub fun q hq=>by
    rcases List.mem_append.1 hq with hq | hq
    ·rcases List.mem_cons.1 (hpe.mem_iff.1 hq) with rfl | hq
     ·exact List.mem_append_right _ (by simp)
     ·exact List.mem_append_left _ hq
    ·exact List.mem_append_right _ (List.mem_cons_of_mem _ hq)
 ·rintro⟨e,F,hE,hc,hT⟩;have:Tset vars out qs (e :: F) (s :: A) v:=Tset.consE.2 ⟨s,A,List.Perm.refl _,hc,hT⟩;exact this.permE hE.symm
theorem Tset.nil {vars:List (List Int)}{out:Int}{qs:List (Int × Int)}{v:Int}(hc:Con vars qs):Tset vars out qs [] [] v ↔ valO out qs v:=by
 constructor
 ·rintro⟨ps,h1,-,-,h4⟩;have:ps=[]:=List.map_eq_nil_iff.1 (List.perm_nil.1 h1);subst this;simpa using h4
 ·intro h;exact⟨[],List.Perm.refl _,List.Perm.refl _,by simpa using hc,by simpa using h⟩
def elL (ins:List Int)(n:Nat)(c:Int):Nat→List Int
 | 0=>[]
 | L+1=>if ((n - (L+1):Nat):Int)=c then elL ins n c L else ins.getD (n - (L+1)) 0 :: elL ins n c L
def Av (c:Int)(used:List Bool)(k:Nat):Prop:=(k:Int)≠c∧used.getD k false=false
instance (c:Int) (used:List Bool):DecidablePred (Av c used):=fun k=>by unfold Av;infer_instance
def avL (inn:List Int)(c:Int)(used:List Bool):List Int:=((List.range inn.length).filter (fun k=>decide (Av c used k))).map (fun k=>inn.getD k 0)
theorem filter_split {p q:Nat→Bool}{k:Nat}(hk:p k=true)(hkq:q k=false)(ho:∀ j,j≠k→q j=p j):∀ l:List Nat,l.Nodup→k ∈ l→(l.filter p).Perm (k :: l.filter q)
 | [],_,h=>by cases h
 | x :: l,hn,h=>by
  obtain⟨hx,hn'⟩:=List.nodup_cons.1 hn;by_cases hxk:x=k
  ·subst hxk;rw[List.filter_cons_of_pos hk,List.filter_cons_of_neg (by rw[hkq];simp)];have:l.filter p=l.filter q:=List.filter_congr fun j hj=>(ho j (by rintro rfl;exact hx hj)).symm;rw[this]
  ·have hkl:k ∈ l:=by
    rcases List.mem_cons.1 h with rfl | h
    ·exact absurd rfl hxk
    ·exact h
   have ih:=filter_split hk hkq ho l hn' hkl;by_cases hp:p x=true
   ·rw[List.filter_cons_of_pos hp,List.filter_cons_of_pos (by rw[ho x hxk];exact hp)];exact ((List.perm_cons x).2 ih).trans (List.Perm.swap _ _ _)
   ·rw[List.filter_cons_of_neg hp,List.filter_cons_of_neg (by rw[ho x hxk];exact hp)];exact ih
theorem getDB_set_eq {bs:List Bool}{v:Nat}(h:v < bs.length):(bs.set v true).getD v false=true:=by
 rw[List.getD_eq_getElem?_getD,List.getElem?_set_self h];rfl
theorem getDB_set_ne {bs:List Bool}{v u:Nat}(h:v≠u):(bs.set v true).getD u false=bs.getD u false:=by
 rw[List.getD_eq_getElem?_getD,List.getD_eq_getElem?_getD,List.getElem?_set_ne h]
theorem avL_split {inn:List Int}{c:Int}{used:List Bool}{k:Nat}(hk:k < inn.length)(hu:used.length=inn.length)(ha:Av c used k):(avL inn c used).Perm (inn.getD k 0 :: avL inn c (used.set k true)):=by
 have:=filter_split (p:=fun j=>decide (Av c used j)) (q:=fun j=>decide (Av c (used.set k true) j)) (k:=k) (decide_eq_true ha)
  (decide_eq_false (by rintro⟨-,h⟩;rw[getDB_set_eq (by omega)] at h;cases h))
  (fun j hj=>decide_eq_decide.2 (by unfold Av;rw[getDB_set_ne (Ne.symm hj)])) (List.range inn.length) List.nodup_range (List.mem_range.2 hk)
 have:=this.map (fun k=>inn.getD k 0);rw[List.map_cons] at this;exact this
theorem avL_mem {inn:List Int}{c:Int}{used:List Bool}{s:Int}:s ∈ avL inn c used ↔ ∃ k,k < inn.length∧Av c used k∧inn.getD k 0=s:=by
 unfold avL;rw[List.mem_map];constructor
 ·rintro⟨k,hk,rfl⟩;obtain⟨h1,h2⟩:=List.mem_filter.1 hk;exact⟨k,List.mem_range.1 h1,of_decide_eq_true h2,rfl⟩
 ·rintro⟨k,h1,h2,rfl⟩;exact⟨k,List.mem_filter.2 ⟨List.mem_range.2 h1,decide_eq_true h2⟩,rfl⟩
theorem getD_mem_nn {inn:List Int}(hi:∀ s ∈ inn,0≤s)(k:Nat):0≤inn.getD k 0:=by
 rw[List.getD_eq_getElem?_getD];cases h:inn[k]? with
 | none=>exact Int.le_refl _
 | some s=>exact hi s (List.mem_of_getElem? h)
theorem getD_mem_el {ins:List Int}(hi:∀ s ∈ ins,-40≤s)(k:Nat):-40≤ins.getD k 0:=by
 rw[List.getD_eq_getElem?_getD];cases h:ins[k]? with
 | none=>decide
 | some s=>exact hi s (List.mem_of_getElem? h)
theorem placeP_min {vars:List (List Int)}{ins:List Int}{out:Int}{inn:List Int}{c:Int}(hn:∀ s ∈ inn,0≤s)(he:∀ e ∈ ins,-40≤e)(ho:-40≤out):∀ (L:Nat)(bs:List Int)(used:List Bool)(r:Int × Bool)(T:Int→Prop)(qs:List (Int × Int)),
  L≤inn.length→used.length=inn.length→Rf vars bs qs→(elL ins inn.length c L).length=(avL inn c used).length→(out < 0→(∃ p ∈ qs,p.1=out)∨out ∈ elL ins inn.length c L)→IsMin T r→
  IsMin (fun v=>T v∨Tset vars out qs (elL ins inn.length c L) (avL inn c used) v) (placeP vars ins out inn c L bs used r)
 | 0,bs,used,r,T,qs,_,hu,hR,hl,hm,hT=>by
  unfold placeP;have hA:avL inn c used=[]:=List.length_eq_zero_iff.1 hl.symm;rw[hA];refine (hT.better (outP bs out)).congr fun v=>or_congr Iff.rfl ?_;rw[show elL ins inn.length c 0=[] from rfl,Tset.nil hR.con];refine (hR.val ho (fun h0=>?_) v).symm;rcases hm h0 with h | h
  ·exact h
  ·cases h
 | L+1,bs,used,r,T,qs,hL,hu,hR,hl,hm,hT=>by
  unfold placeP;by_cases hc:((inn.length - (L+1):Nat):Int)=c
  ·rw[if_pos hc];have hE:elL ins inn.length c (L+1)=elL ins inn.length c L:=by rw[elL,if_pos hc]
   rw[hE] at hl hm ⊢;exact placeP_min hn he ho L bs used r T qs (by omega) hu hR hl hm hT
  ·rw[if_neg hc];obtain⟨e,hee⟩:∃ e,e=ins.getD (inn.length - (L+1)) 0:=⟨_,rfl⟩
   have hE:elL ins inn.length c (L+1)=e :: elL ins inn.length c L:=by rw[elL,if_neg hc,hee]
   rw[hE] at hl hm ⊢;rw[← hee];have he40:-40≤e:=by rw[hee];exact getD_mem_el he _
   obtain⟨E,hEE⟩:∃ E,E=elL ins inn.length c L:=⟨_,rfl⟩
   rw[← hEE] at hl hm ⊢;have ih:=placeP_min hn he ho (vars:=vars) (inn:=inn) (c:=c) L;rw[← hEE] at ih;have key:∀ m:Nat,m≤inn.length→
     (∀ s,s ∈ ((List.range m).foldl (fun (x:List Int × (Int × Bool)) (k:Nat)=>if (k:Int)=c∨used.getD k false=true∨inn.getD k 0 ∈ x.1 then x else (inn.getD k 0 :: x.1,if (acceptP vars bs e (inn.getD k 0)).1=true then placeP vars ins out inn c L (acceptP vars bs e (inn.getD k 0)).2.2 (used.set k true) x.2 else x.2)) ([],r)).1 ↔ ∃ k,k < m∧Av c used k∧inn.getD k 0=s)∧
     IsMin (fun v=>T v∨∃ k,k < m∧Av c used k∧Con vars ((e,inn.getD k 0) :: qs)∧Tset vars out ((e,inn.getD k 0) :: qs) E (avL inn c (used.set k true)) v) ((List.range m).foldl (fun (x:List Int × (Int × Bool)) (k:Nat)=>if (k:Int)=c∨used.getD k false=true∨inn.getD k 0 ∈ x.1 then x else (inn.getD k 0 :: x.1,if (acceptP vars bs e (inn.getD k 0)).1=true then placeP vars ins out inn c L (acceptP vars bs e (inn.getD k 0)).2.2 (used.set k true) x.2 else x.2)) ([],r)).2:=by
    intro m;induction m with
    | zero=>
     intro _;refine⟨fun s=>⟨fun h=>(by cases h),fun ⟨k,hk,_⟩=>absurd hk (Nat.not_lt_zero _)⟩,hT.congr fun v=>⟨.inl,fun h=>?_⟩⟩;rcases h with h | ⟨k,hk,-⟩
     ·exact h
     ·exact absurd hk (Nat.not_lt_zero _)
    | succ m ih2=>
     intro hm';obtain⟨i1,i2⟩:=ih2 (by omega);rw[List.range_succ,List.foldl_append,List.foldl_cons,List.foldl_nil];obtain⟨x,hx⟩:∃ x,x=(List.range m).foldl (fun (x:List Int × (Int × Bool)) (k:Nat)=>if (k:Int)=c∨used.getD k false=true∨inn.getD k 0 ∈ x.1 then x else (inn.getD k 0 :: x.1,if (acceptP vars bs e (inn.getD k 0)).1=true then placeP vars ins out inn c L (acceptP vars bs e (inn.getD k 0)).2.2 (used.set k true) x.2 else x.2)) ([],r):=⟨_,rfl⟩
     rw[← hx] at i1 i2 ⊢;by_cases h1:(m:Int)=c∨used.getD m false=true
     ·have hna:¬ Av c used m:=by
       rintro⟨a,b⟩;rcases h1 with h1 | h1
       ·exact a h1
       ·rw[b] at h1;cases h1
      rw[if_pos (by rcases h1 with h1 | h1;exact .inl h1;exact .inr (.inl h1))];refine⟨fun s=>(i1 s).trans ⟨fun ⟨k,hk,hh⟩=>⟨k,by omega,hh⟩,fun ⟨k,hk,hh⟩=>?_⟩,i2.congr fun v=>or_congr Iff.rfl ⟨fun ⟨k,hk,hh⟩=>⟨k,by omega,hh⟩,fun ⟨k,hk,hh⟩=>?_⟩⟩
      ·rcases Nat.lt_succ_iff_lt_or_eq.1 hk with hk | rfl
       ·exact⟨k,hk,hh⟩
       ·exact absurd hh.1 hna
      ·rcases Nat.lt_succ_iff_lt_or_eq.1 hk with hk | rfl
       ·exact⟨k,hk,hh⟩
       ·exact absurd hh.1 hna
     ·have hav:Av c used m:=⟨fun h=>h1 (.inl h),by cases h:used.getD m false;rfl;exact absurd (.inr h) h1⟩
      by_cases h2:inn.getD m 0 ∈ x.1
      ·rw[if_pos (.inr (.inr h2))];obtain⟨j,hj,hja,hjs⟩:=(i1 _).1 h2;refine⟨fun s=>(i1 s).trans ⟨fun ⟨k,hk,hh⟩=>⟨k,by omega,hh⟩,fun ⟨k,hk,hh⟩=>?_⟩,i2.congr fun v=>or_congr Iff.rfl ⟨fun ⟨k,hk,hh⟩=>⟨k,by omega,hh⟩,fun ⟨k,hk,hh⟩=>?_⟩⟩
       ·rcases Nat.lt_succ_iff_lt_or_eq.1 hk with hk | rfl
        ·exact⟨k,hk,hh⟩
        ·exact⟨j,hj,hja,hjs.trans hh.2⟩
       ·rcases Nat.lt_succ_iff_lt_or_eq.1 hk with hk | rfl
        ·exact⟨k,hk,hh⟩
        ·refine⟨j,hj,hja,by rw[hjs];exact hh.2.1,?_⟩;rw[hjs];refine hh.2.2.permA ?_;have p1:=avL_split (by omega) hu hja;have p2:=avL_split (by omega) hu hav;rw[hjs] at p1;exact (List.perm_cons _).1 (p2.symm.trans p1)
      ·rw[if_neg (by rintro (h | h | h);exact h1 (.inl h);exact h1 (.inr h);exact h2 h)];have hsm:=acc_step hR he40 (getD_mem_nn hn m);refine⟨fun s=>?_,?_⟩
       ·rw[List.mem_cons];constructor
        ·rintro (rfl | h)
         ·exact⟨m,by omega,hav,rfl⟩
         ·obtain⟨k,hk,hh⟩:=(i1 s).1 h;exact⟨k,by omega,hh⟩
        ·rintro⟨k,hk,hh⟩;rcases Nat.lt_succ_iff_lt_or_eq.1 hk with hk | rfl
         ·exact .inr ((i1 s).2 ⟨k,hk,hh⟩)
         ·exact .inl hh.2.symm
       ·dsimp only;by_cases h3:(acceptP vars bs e (inn.getD m 0)).1=true
        ·rw[if_pos h3];have hsp:=avL_split (show m < inn.length by omega) hu hav;have hlen:E.length=(avL inn c (used.set m true)).length:=by
          have:=hsp.length_eq;rw[List.length_cons] at this hl;omega
         have:=ih (acceptP vars bs e (inn.getD m 0)).2.2 (used.set m true) x.2 _ ((e,inn.getD m 0) :: qs) (by omega) (by rw[List.length_set];exact hu) (hsm.2 h3) hlen (fun h0=>by
          rcases hm h0 with ⟨p,hp,hpo⟩ | h
          ·exact .inl ⟨p,List.mem_cons_of_mem _ hp,hpo⟩
          ·rcases List.mem_cons.1 h with h | h
           ·exact .inl ⟨(e,inn.getD m 0),by simp,h.symm⟩
           ·exact .inr h) i2
         refine this.congr fun v=>?_;constructor
         ·rintro ((h | ⟨k,hk,hh⟩) | h)
          ·exact .inl h
          ·exact .inr ⟨k,by omega,hh⟩
          ·exact .inr ⟨m,by omega,hav,hsm.1.1 h3,h⟩
         ·rintro (h | ⟨k,hk,hh⟩)
          ·exact .inl (.inl h)
          ·rcases Nat.lt_succ_iff_lt_or_eq.1 hk with hk | rfl
           ·exact .inl (.inr ⟨k,hk,hh⟩)
           ·exact .inr hh.2.2
        ·rw[if_neg h3];refine i2.congr fun v=>or_congr Iff.rfl ⟨fun ⟨k,hk,hh⟩=>⟨k,by omega,hh⟩,fun ⟨k,hk,hh⟩=>?_⟩;rcases Nat.lt_succ_iff_lt_or_eq.1 hk with hk | rfl
         ·exact⟨k,hk,hh⟩
         ·exact absurd (hsm.1.2 hh.2.1) h3
   refine (key inn.length (Nat.le_refl _)).2.congr fun v=>or_congr Iff.rfl ?_;rw[Tset.consE];constructor
   ·rintro⟨k,hk,hav,hc',hT'⟩;exact⟨inn.getD k 0,_,avL_split hk hu hav,hc',hT'⟩
   ·rintro⟨s,B,hA,hc',hT'⟩;obtain⟨k,hk,hav,rfl⟩:=avL_mem.1 (hA.mem_iff.2 (by simp:s ∈ s :: B));exact⟨k,hk,hav,hc',hT'.permA ((List.perm_cons _).1 (hA.symm.trans (avL_split hk hu hav)))⟩
theorem elL_eq (ins:List Int)(n:Nat)(c:Int):∀ L:Nat,L≤n→elL ins n c L=((List.range' (n - L) L).filter (fun (k:Nat)=>decide ((k:Int)≠c))).map (fun (k:Nat)=>ins.getD k 0)
 | 0,_=>by simp[elL]
 | L+1,h=>by
  unfold elL;rw[List.range'_succ,show n - (L+1)+1=n - L by omega];by_cases hc:((n - (L+1):Nat):Int)=c
  ·rw[if_pos hc,List.filter_cons_of_neg (by simp[hc]),elL_eq ins n c L (by omega)]
  ·rw[if_neg hc,List.filter_cons_of_pos (by simp[hc]),List.map_cons,elL_eq ins n c L (by omega)]
def offC (l:List Int)(n:Nat)(c:Int):List Int:=((List.range n).filter (fun (k:Nat)=>decide ((k:Int)≠c))).map (fun (k:Nat)=>l.getD k 0)
theorem elL_full (ins:List Int)(n:Nat)(c:Int):elL ins n c n=offC ins n c:=by
 rw[elL_eq ins n c n (Nat.le_refl _),Nat.sub_self,← List.range_eq_range'];rfl
theorem avL_full (inn:List Int)(c:Int):avL inn c (List.replicate inn.length false)=offC inn inn.length c:=by
 unfold avL offC
 congr 1
 refine List.filter_congr fun k hk=>decide_eq_decide.2 ?_;unfold Av;have:(List.replicate inn.length false).getD k false=false:=by
  rw[List.getD_eq_getElem?_getD];cases h:(List.replicate inn.length false)[k]? with
  | none=>rfl
  | some b=>exact (List.mem_replicate.1 (List.mem_of_getElem? h)).2
 rw[this];exact and_iff_left rfl
def ctrQ (ins inn:List Int)(c:Int):List (Int × Int):=if 0≤c then [(ins.getD c.toNat 0,inn.getD c.toNat 0)] else []
def PmT (vars:List (List Int))(ins:List Int)(out:Int)(inn:List Int)(c:Int)(v:Int):Prop:=
 Con vars (ctrQ ins inn c)∧Tset vars out (ctrQ ins inn c) (offC ins inn.length c) (offC inn inn.length c) v
theorem Rf.neg {vars:List (List Int)}:Rf vars negL []:=⟨by decide,Con.nil,by simp,by simp,fun v hv=>.inr ⟨by simp,by
 have:∀ v:Fin 40,negL.getD v.1 0 = -1:=by decide
 exact this ⟨v,hv⟩⟩⟩
theorem offC_mem {l:List Int}{n:Nat}{c x:Int}(hl:l.length=n):x ∈ offC l n c→x ∈ l:=by
 intro h;unfold offC at h;obtain⟨k,hk,rfl⟩:=List.mem_map.1 h;have hkn:=List.mem_range.1 (List.mem_filter.1 hk).1;rw[List.getD_eq_getElem?_getD,List.getElem?_eq_getElem (by omega)];exact List.getElem_mem _
theorem mem_offC {l:List Int}{n:Nat}{c x:Int}(hl:l.length=n)(h:x ∈ l):x ∈ offC l n c∨(0≤c∧x=l.getD c.toNat 0):=by
 obtain⟨k,hk,rfl⟩:=List.getElem_of_mem h;have hg:l.getD k 0=l[k]:=by rw[List.getD_eq_getElem?_getD,List.getElem?_eq_getElem hk];rfl
 by_cases hc:(k:Int)=c
 ·refine .inr ⟨by omega,?_⟩;rw[← hc,Int.toNat_natCast,hg]
 ·refine .inl (List.mem_map.2 ⟨k,List.mem_filter.2 ⟨List.mem_range.2 (by omega),by simp[hc]⟩,hg⟩)
theorem permutedP_min {vars:List (List Int)}{hood:List (Int × Int)}{ins:List Int}{out:Int}{inn:List Int}(hn:∀ s ∈ inn,0≤s)(he:∀ e ∈ ins,-40≤e)(ho:-40≤out)(hm:out < 0→out ∈ ins)(hl:ins.length=inn.length) :
  IsMin (PmT vars ins out inn (ctrP hood)) (permutedP hood vars ins out inn):=by
 unfold permutedP;obtain⟨c,hc⟩:∃ c,c=ctrP hood:=⟨_,rfl⟩
 rw[← hc];have hlen:(elL ins inn.length c inn.length).length=(avL inn c (List.replicate inn.length false)).length:=by
  rw[elL_full,avL_full];unfold offC;rw[List.length_map,List.length_map]
 have h0:IsMin (fun _=>False) ((0,false):Int × Bool):=IsMin.none fun _ h=>h;unfold PmT ctrQ;by_cases h:0≤c
 ·rw[if_pos h,if_pos h];have hs:=acc_step (Rf.neg (vars:=vars)) (getD_mem_el he c.toNat) (getD_mem_nn hn c.toNat);by_cases ha:(acceptP vars negL (ins.getD c.toNat 0) (inn.getD c.toNat 0)).1=true
  ·rw[if_pos ha];have:=placeP_min hn he ho (c:=c) inn.length _ (List.replicate inn.length false) (0,false) (fun _=>False) _ (Nat.le_refl _) (by simp) (hs.2 ha) hlen (fun h1=>by
    rw[elL_full];rcases mem_offC (c:=c) hl (hm h1) with h2 | ⟨-,h2⟩
    ·exact .inr h2
    ·exact .inl ⟨_,List.mem_cons_self,h2.symm⟩) h0
   refine this.congr fun v=>?_;rw[elL_full,avL_full];exact⟨fun h=>by rcases h with h | h;exact h.elim;exact⟨hs.1.1 ha,h⟩,fun h=>.inr h.2⟩
  ·rw[if_neg ha];exact IsMin.none fun v hv=>ha (hs.1.2 hv.1)
 ·rw[if_neg h,if_neg h];have:=placeP_min hn he ho (c:=c) inn.length negL (List.replicate inn.length false) (0,false) (fun _=>False) [] (Nat.le_refl _) (by simp) (Rf.neg (vars:=vars)) hlen (fun h1=>by
    rw[elL_full];rcases mem_offC (c:=c) hl (hm h1) with h2 | ⟨h3,-⟩
    ·exact .inr h2
    ·exact absurd h3 h) h0
  refine this.congr fun v=>?_;rw[elL_full,avL_full];exact⟨fun h=>by rcases h with h | h;exact h.elim;exact⟨Con.nil,h⟩,fun h=>.inr h.2⟩
theorem el40 {ins:List Int}(h:∀ e ∈ ins,ElOk 40 e):∀ e ∈ ins,-40≤e:=fun e he=>by
 have:=(h e he).1;omega
theorem PmT.rng {st:Int}{vars:List (List Int)}{ins inn:List Int}{out c v:Int}(h0:0 < st)(hs:∀ s ∈ inn,0≤s∧s < st)(ho:OutOk st ins out)(h:PmT vars ins out inn c v):0≤v∧v < st:=by
 obtain⟨-,ps,h1,h2,-,h4⟩:=h;unfold valO at h4
 split at h4
 ·subst h4;exact⟨by assumption,ho.1⟩
 ·obtain⟨p,hp,-,rfl⟩:=h4;rcases List.mem_append.1 hp with hp | hp
  ·exact hs _ (offC_mem rfl (h2.mem_iff.1 (List.mem_map.2 ⟨p,hp,rfl⟩)))
  ·unfold ctrQ at hp
   split at hp
   ·rw[List.mem_singleton] at hp;subst hp;dsimp only;rw[List.getD_eq_getElem?_getD];cases h5:inn[c.toNat]? with
    | none=>exact⟨by simp,by simpa using h0⟩
    | some z=>exact hs z (List.mem_of_getElem? h5)
   ·cases hp
theorem permRng:PermRng:=by
 intro st hood vars ins inn out h0 hs he ho hl hh hhd hf;have:=permutedP_min (vars:=vars) (hood:=hood) (ins:=ins) (out:=out) (inn:=inn) (fun s h=>(hs s h).1) (el40 he) (by
  rcases ho.2 with h | h
  ·omega
  ·exact el40 he _ h) (fun h1=>by
  rcases ho.2 with h | h
  ·omega
  ·exact h) hl
 rcases this with ⟨h1,-⟩ | ⟨-,h2,-⟩
 ·rw[h1] at hf;cases hf
 ·exact h2.rng h0 hs ho
end Go.Proofs.YtlegfdllipkggaaGreatDoor
namespace Go.Proofs.YtlegfdllipkggaaGreatDoor
open Lib(hid)
open Go.RowKit Go.Maps
set_option maxRecDepth 100000
set_option linter.unusedVariables false
set_option linter.unusedSimpArgs false
def treeT (t:TabL):PT × Int:=if rightTab t=true then madeP t.st.toNat t.hood (fun l=>valT t (intsN l)) else (PT.zero,2)
theorem treeT_no {t:TabL}(h:¬ rightTab t=true):treeT t=(PT.zero,2):=if_neg h
theorem treeT_yes {t:TabL}(h:rightTab t=true){q:Nat}(hq:t.st=(q:Int)):treeT t=madeP q t.hood (fun l=>valT t (intsN l)):=by
 unfold treeT;rw[if_pos h,hq,Int.toNat_natCast]
set_option maxHeartbeats 16000000 in
theorem tree1_any (hA:Option Addr)(hc:Nat)(vA:Option Addr)(vc:Nat)(rA:Option Addr)(rc:Nat)(t:TabH)(gt:Nat)(l:List Nat)(A:Option Addr)(c q:Nat)(w:World)(hT:TabR w hA vA rA t)(hG:GMat w)(hst:t.st=(q:Int))(hi:Ints w A (intsN l))(hl:l.length=t.hood.length)(hq:∀ s ∈ l,s < q)(hb:Blk w gt 26 #[.int .i64 t.st,.int .i64 t.sym,.slice hA t.hood.length hc,.slice vA t.vs.length vc,.slice rA t.rs.length rc])(hr:rightTab t.tab=true)(hs:SymOk t.sym) :
  Calls Tryz.prog 26 #[.slice A t.hood.length c,.pointer (some ⟨gt,0,none⟩)] w fun e w'=>e=.returned (.int .i64 (((fun l=>valT t.tab (intsN l)) l)))∧Below w.heap.size w w':=by
 have hcall:=next_any hA hc vA vc rA rc t A c (intsN l) w hT hG hi hs.c;rw[intsN_len,hl] at hcall;rw[next_intsN hr hst hl hq] at hcall;dsimp only;obtain⟨vz,hvz⟩:∃ z,z=valT t.tab (intsN l):=⟨_,rfl⟩
 rw[← hvz] at hcall ⊢;dsimp only at hcall;clear hvz;obtain⟨st,sym,hood,vs,rs⟩:=t;unfold tabV at hcall;dsimp only at hcall hb hl hst ⊢;have HCALL:=hid hcall;have HB:=hid hb;have x0:=HB.out.cell_ 0 (.int .i64 st) rfl;have x1:=HB.out.cell_ 1 (.int .i64 sym) rfl;have x2:=HB.out.cell_ 2 (.slice hA hood.length hc) rfl;have x3:=HB.out.cell_ 3 (.slice vA vs.length vc) rfl;have x4:=HB.out.cell_ 4 (.slice rA rs.length rc) rfl;clear hT hG hi hq hb hr hs hcall hl hst;go_enter Tryz.func26,Tryz.ntmps26;go_wp2_with (go_at_call 27;refine HCALL.out.mono ?_;rintro e w1 ⟨rfl,hb1⟩;refine Hid.out ?_);refine hid ?_;go_wp2;go_ret;exact⟨rfl,hb1⟩
set_option maxHeartbeats 16000000 in
theorem tree15_any (hA:Option Addr)(hc:Nat)(vA:Option Addr)(vc:Nat)(rA:Option Addr)(rc:Nat)(t:TabH)(w:World)(hT:TabR w hA vA rA t)(hG:GMat w)(hTB:TabB w.heap.size w)(hs:SymOk t.sym) :
  Calls Tryz.prog 8 #[tabV hA hc vA vc rA rc t] w (RetAE (treeT t.tab) w):=by
 obtain⟨w0,hw0⟩:∃ w0,w0=(w.alloc (.cells #[.int .i64 t.st,.int .i64 t.sym,.slice hA t.hood.length hc,.slice vA t.vs.length vc,.slice rA t.rs.length rc] 26)).alloc (.cells #[.int .i64 0,.slice none 0 0,.slice none 0 0] 31):=⟨_,rfl⟩
 have hb0:Below w.heap.size w w0:=by rw[hw0];exact (below_new _ _).alloc (by simp) _
 have p0:Blk w0 w.heap.size 26 #[.int .i64 t.st,.int .i64 t.sym,.slice hA t.hood.length hc,.slice vA t.vs.length vc,.slice rA t.rs.length rc]:=by rw[hw0];exact (Blk.new w _ _).alloc _
 have q0:Blk w0 (w.heap.size+1) 31 #[.int .i64 0,.slice none 0 0,.slice none 0 0]:=by rw[hw0];exact (by have:=Blk.new (w.alloc (.cells #[.int .i64 t.st,.int .i64 t.sym,.slice hA t.hood.length hc,.slice vA t.vs.length vc,.slice rA t.rs.length rc] 26)) 31 #[.int .i64 0,.slice none 0 0,.slice none 0 0];simpa using this)
 have hcr:=rright15_any hA hc vA vc rA rc t w0 (hT.ext hb0) (hG.ext hb0);have HTR:=hid (And.intro hT (And.intro hG (And.intro hTB hs)));have HB0:=hid hb0;have HP:=hid p0;have HQ:=hid q0;have HW0:=hid hw0;obtain⟨res,hres⟩:∃ r,r=treeT t.tab:=⟨_,rfl⟩
 rw[← hres];have HRES:=hid hres;have hh9:t.hood.length≤9223372036854775807:=hT.hood.le;have hr9:t.rs.length≤9223372036854775807:=hT.rows.le;clear hb0 p0 q0 hw0 hT hG hTB hs hres;cases hr:rightTab t.tab with
 | false=>
  have HE:Hid (res=(PT.zero,2)):=hid (by rw[HRES.out];exact treeT_no (by rw[hr];simp));rw[hr] at hcr;obtain⟨st,sym,hood,vs,rs⟩:=t;unfold tabV at hcr ⊢;dsimp only at hcr HP HW0 hh9 hr9 ⊢;have HCR:=hid hcr;have x0:=HP.out.cell_ 0 (.int .i64 st) rfl;have x1:=HP.out.cell_ 1 (.int .i64 sym) rfl;have x2:=HP.out.cell_ 2 (.slice hA hood.length hc) rfl;have x3:=HP.out.cell_ 3 (.slice vA vs.length vc) rfl;have x4:=HP.out.cell_ 4 (.slice rA rs.length rc) rfl;clear hr hcr HTR HRES;go_enter Tryz.func8,Tryz.ntmps8;go_upto_region 1 with fail
  rw[← HW0.out];go_wp2_with (go_at_call 24;refine HCR.out.mono ?_;rintro e w1 ⟨rfl,hb⟩;refine Hid.out ?_);refine hid ?_;have HQ1:=hid (HQ.out.below hb HQ.out.lt);have HB01:=hid hb;have HB1:=hid (HB0.out.trans (hb.mono HB0.out.size));have HP1:=hid (HP.out.below hb HP.out.lt);clear hb x0 x1 x2 x3 x4;have x0:=HP1.out.cell_ 0 (.int .i64 st) rfl;have x1:=HP1.out.cell_ 1 (.int .i64 sym) rfl;have x2:=HP1.out.cell_ 2 (.slice hA hood.length hc) rfl;have x3:=HP1.out.cell_ 3 (.slice vA vs.length vc) rfl;have x4:=HP1.out.cell_ 4 (.slice rA rs.length rc) rfl;have d0:=HQ1.out.cell_ 0 (.int .i64 0) rfl;have f0:=HQ1.out.frozen 0;have d1:=HQ1.out.cell_ 1 (.slice none 0 0) rfl;have f1:=HQ1.out.frozen 1;have d2:=HQ1.out.cell_ 2 (.slice none 0 0) rfl;have f2:=HQ1.out.frozen 2;go_wp2;have hq:Blk (((w1.setCell ⟨w.heap.size+1,0,none⟩ (.int .i64 0)).setCell ⟨w.heap.size+1,1,none⟩ (.slice none 0 0)).setCell ⟨w.heap.size+1,2,none⟩ (.slice none 0 0)) (w.heap.size+1) 31 #[.int .i64 0,.slice none 0 0,.slice none 0 0]:=(((HQ1.out.set_ 0 (.int .i64 0)).set_ 1 (.slice none 0 0)).set_ 2 (.slice none 0 0))
  rw[HE.out];exact bodyPost_ret (results_ct Tryz.results8 _ _ (w.heap.size+1) 31 #[.int .i64 0,.slice none 0 0,.slice none 0 0] (0,0) _ rfl hq Tryz.underlying31 rfl Tryz.sizeTree) rfl
   ⟨_,_,_,_,_,_,_,rfl,TreeAt.zero _,(((HB1.out.setCell (p:=⟨w.heap.size+1,0,none⟩) (by first | (simp;done) | (simp;omega)) _).setCell (p:=⟨w.heap.size+1,1,none⟩) (by first | (simp;done) | (simp;omega)) _).setCell (p:=⟨w.heap.size+1,2,none⟩) (by first | (simp;done) | (simp;omega)) _)⟩
 | true=>
  obtain⟨⟨hr1,hr2⟩,hr3,-⟩:=rightTab_parts hr;have hln:=hoodB_len hr3;obtain⟨q,hq⟩:∃ q:Nat,t.st=(q:Int):=⟨t.st.toNat,by have:t.tab.st=t.st:=rfl;omega⟩
  have hq1:t.tab.st=(q:Int):=hq;have HRT:=hid hr;have HE:Hid (res=madeP q t.hood ((fun l=>valT t.tab (intsN l)))):=hid (by rw[HRES.out];exact treeT_yes hr hq1);have HM:Hid (∀ W,Below w0.heap.size w0 W→Calls Tryz.prog 25 #[tabV hA hc vA vc rA rc t,.func (.func 26) #[] #[.pointer (some ⟨w.heap.size,0,none⟩)]] W (RetMade (madeP q t.hood ((fun l=>valT t.tab (intsN l)))) t.hood hA hc W)):=hid (fun W hW=>by
   have hbW:=HB0.out.trans (hW.mono HB0.out.size);refine madeT_any hA hc vA vc rA rc t q (w.heap.size) ((fun l=>valT t.tab (intsN l))) W hq (by omega) (by omega) hln.1 hln.2 (HTR.out.1.hood.ext hbW) ((HTR.out.2.2.1.on hbW).up hbW.size) ?_ ?_
   ·intro l hl hls;have:=val_rng HRT.out HTR.out.2.2.2 (states_intsN hq1 hls).2 (by rw[intsN_len];exact hl);exact⟨this.1,by rw[← hq1];exact this.2⟩
   ·intro l A c W2 hl hls hi h2;exact tree1_any hA hc vA vc rA rc t (w.heap.size) l A c q W2 (HTR.out.1.ext (hbW.trans (h2.mono hbW.size))) (HTR.out.2.1.ext (hbW.trans (h2.mono hbW.size))) hq hi hl hls ((HP.out.below hW HP.out.lt).below h2 (Nat.lt_of_lt_of_le HP.out.lt hW.size)) HRT.out HTR.out.2.2.2)
  rw[← HE.out] at HM;rw[hr] at hcr;have HPS:Hid (Pts w hA t.hood):=hid HTR.out.1.hood;obtain⟨st,sym,hood,vs,rs⟩:=t;unfold tabV at hcr HM ⊢;dsimp only at hcr HM HP HW0 HPS hh9 hr9 ⊢;have HCR:=hid hcr;have x0:=HP.out.cell_ 0 (.int .i64 st) rfl;have x1:=HP.out.cell_ 1 (.int .i64 sym) rfl;have x2:=HP.out.cell_ 2 (.slice hA hood.length hc) rfl;have x3:=HP.out.cell_ 3 (.slice vA vs.length vc) rfl;have x4:=HP.out.cell_ 4 (.slice rA rs.length rc) rfl;clear hr hcr hr1 hr2 hr3 hln hq hq1 HTR HRES HE HRT;go_enter Tryz.func8,Tryz.ntmps8;go_upto_region 1 with fail
  rw[← HW0.out];go_wp2_with (go_at_call 24;refine HCR.out.mono ?_;rintro e w1 ⟨rfl,hb⟩;refine Hid.out ?_);refine hid ?_;have HQ1:=hid (HQ.out.below hb HQ.out.lt);have HB01:=hid hb;have HB1:=hid (HB0.out.trans (hb.mono HB0.out.size));have HP1:=hid (HP.out.below hb HP.out.lt);clear hb x0 x1 x2 x3 x4;have x0:=HP1.out.cell_ 0 (.int .i64 st) rfl;have x1:=HP1.out.cell_ 1 (.int .i64 sym) rfl;have x2:=HP1.out.cell_ 2 (.slice hA hood.length hc) rfl;have x3:=HP1.out.cell_ 3 (.slice vA vs.length vc) rfl;have x4:=HP1.out.cell_ 4 (.slice rA rs.length rc) rfl;have HMC:=hid (HM.out w1 HB01.out);go_wp2_with (go_at_call 25;refine HMC.out.mono ?_;rintro e w2 ⟨s0,A0,n0,c0',oA,n1,oc,rfl,hb2,hx⟩;refine Hid.out ?_);refine hid ?_;rcases hx with ⟨hz,rfl,rfl,rfl,rfl,rfl,rfl,rfl⟩ | ⟨os2,rfl,rfl,rfl,rfl,rfl,hps,hon,hns⟩
  ·have HZ:=hid hz;have HQ2:=hid (HQ1.out.below hb2 HQ1.out.lt);have HB2:=hid (HB1.out.trans (hb2.mono HB1.out.size));clear hz hb2 x0 x1 x2 x3 x4;have d0:=HQ2.out.cell_ 0 (.int .i64 0) rfl;have f0:=HQ2.out.frozen 0;have d1:=HQ2.out.cell_ 1 (.slice none 0 0) rfl;have f1:=HQ2.out.frozen 1;have d2:=HQ2.out.cell_ 2 (.slice none 0 0) rfl;have f2:=HQ2.out.frozen 2;go_wp2;have hq:Blk (((w2.setCell ⟨w.heap.size+1,0,none⟩ (.int .i64 0)).setCell ⟨w.heap.size+1,1,none⟩ (.slice none 0 0)).setCell ⟨w.heap.size+1,2,none⟩ (.slice none 0 0)) (w.heap.size+1) 31 #[.int .i64 0,.slice none 0 0,.slice none 0 0]:=(((HQ2.out.set_ 0 (.int .i64 0)).set_ 1 (.slice none 0 0)).set_ 2 (.slice none 0 0))
   exact bodyPost_ret (results_ct Tryz.results8 _ _ (w.heap.size+1) 31 #[.int .i64 0,.slice none 0 0,.slice none 0 0] (0,0) _ rfl hq Tryz.underlying31 rfl Tryz.sizeTree) rfl
    ⟨_,_,_,_,_,_,_,rfl,(by rw[HZ.out];exact TreeAt.zero _),(((HB2.out.setCell (p:=⟨w.heap.size+1,0,none⟩) (by first | (simp;done) | (simp;omega)) _).setCell (p:=⟨w.heap.size+1,1,none⟩) (by first | (simp;done) | (simp;omega)) _).setCell (p:=⟨w.heap.size+1,2,none⟩) (by first | (simp;done) | (simp;omega)) _)⟩
  ·have HX:=hid (And.intro hps (And.intro hon hns));have HQ2:=hid (HQ1.out.below hb2 HQ1.out.lt);have HB2:=hid (HB1.out.trans (hb2.mono HB1.out.size));clear hps hon hns hb2 x0 x1 x2 x3 x4;have d0:=HQ2.out.cell_ 0 (.int .i64 0) rfl;have f0:=HQ2.out.frozen 0;have d1:=HQ2.out.cell_ 1 (.slice none 0 0) rfl;have f1:=HQ2.out.frozen 1;have d2:=HQ2.out.cell_ 2 (.slice none 0 0) rfl;have f2:=HQ2.out.frozen 2;go_wp2;have hq:Blk (((w2.setCell ⟨w.heap.size+1,0,none⟩ (.int .i64 res.1.st)).setCell ⟨w.heap.size+1,1,none⟩ (.slice hA hood.length hc)).setCell ⟨w.heap.size+1,2,none⟩ (.slice oA os2.length oc)) (w.heap.size+1) 31 #[.int .i64 res.1.st,.slice hA hood.length hc,.slice oA os2.length oc]:=(((HQ2.out.set_ 0 (.int .i64 res.1.st)).set_ 1 (.slice hA hood.length hc)).set_ 2 (.slice oA os2.length oc))
   have hlt:w.heap.size+1 < w1.heap.size:=HQ1.out.lt;have hk:Kept (fun g=>g=w.heap.size+1) w2 (((w2.setCell ⟨w.heap.size+1,0,none⟩ (.int .i64 res.1.st)).setCell ⟨w.heap.size+1,1,none⟩ (.slice hA hood.length hc)).setCell ⟨w.heap.size+1,2,none⟩ (.slice oA os2.length oc)):=((((Kept.refl (fun g=>g=w.heap.size+1) w2).setCell (p:=⟨w.heap.size+1,0,none⟩) (Or.inl rfl) _).setCell (p:=⟨w.heap.size+1,1,none⟩) (Or.inl rfl) _).setCell (p:=⟨w.heap.size+1,2,none⟩) (Or.inl rfl) _)
   have hon2:=HX.out.2.1.kept hk (fun g g1 g2=>by subst g2;have:=(own_lt' HX.out.2.1.1 g1).2;omega) (fun x hx g g1 g2=>by subst g2;have:=(own_lt' (HX.out.2.1.2 x hx) g1).2;omega);have hbe:Below w.heap.size w (((w2.setCell ⟨w.heap.size+1,0,none⟩ (.int .i64 res.1.st)).setCell ⟨w.heap.size+1,1,none⟩ (.slice hA hood.length hc)).setCell ⟨w.heap.size+1,2,none⟩ (.slice oA os2.length oc)):=(((HB2.out.setCell (p:=⟨w.heap.size+1,0,none⟩) (by first | (simp;done) | (simp;omega)) _).setCell (p:=⟨w.heap.size+1,1,none⟩) (by first | (simp;done) | (simp;omega)) _).setCell (p:=⟨w.heap.size+1,2,none⟩) (by first | (simp;done) | (simp;omega)) _)
   exact bodyPost_ret (results_ct Tryz.results8 _ _ (w.heap.size+1) 31 #[.int .i64 res.1.st,.slice hA hood.length hc,.slice oA os2.length oc] (0,0) _ rfl hq Tryz.underlying31 rfl Tryz.sizeTree) rfl
    ⟨_,_,_,_,_,_,_,rfl,⟨hA,hc,oA,oc,os2,by rw[HX.out.1],by rw[HX.out.1];exact HPS.out.ext hbe,OwnN.reads hon2,HX.out.2.2⟩,hbe⟩
end Go.Proofs.YtlegfdllipkggaaGreatDoor
