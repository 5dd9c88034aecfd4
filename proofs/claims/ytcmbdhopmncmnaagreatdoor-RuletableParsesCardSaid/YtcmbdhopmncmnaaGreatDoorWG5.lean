/-
  texts PermS OwnBl HoodN PlaceM: parts of the proof; conditions stand with each theorem.
-/
import Derived.Test.YtcmbdhopmncmnaaGreatDoorWG4
import Derived.Test.YtcmbdhopmncmnaaGreatDoorWG1
import Derived.Test.YtcmbdhopmncmnaaGreatDoorWG3
namespace Go.Proofs.YtcmbdhopmncmnaaGreatDoor
set_option maxRecDepth 100000
set_option linter.unusedVariables false
set_option linter.unusedSimpArgs false
def Con (vars:List (List Int))(ps:List (Int × Int)):Prop:=
 (∀ p ∈ ps,0≤p.1→p.1=p.2)∧(∀ p ∈ ps,p.1 < 0→p.2 ∈ vars.getD (-1 - p.1).toNat [])∧(∀ p ∈ ps,∀ q ∈ ps,p.1 < 0→p.1=q.1→p.2=q.2)
theorem Con.sub {vars:List (List Int)}{ps qs:List (Int × Int)}(h:Con vars qs)(hs:∀ p ∈ ps,p ∈ qs):Con vars ps:=
 ⟨fun p hp=>h.1 p (hs p hp),fun p hp=>h.2.1 p (hs p hp),fun p hp q hq=>h.2.2 p (hs p hp) q (hs q hq)⟩
theorem Con.nil {vars:List (List Int)}:Con vars []:=⟨by simp,by simp,by simp⟩
structure Rf (vars:List (List Int))(bs:List Int)(qs:List (Int × Int)):Prop where
 len:bs.length=40
 con:Con vars qs
 nn:∀ p ∈ qs,0≤p.2
 el:∀ p ∈ qs,-40≤p.1
 at_:∀ v:Nat,v < 40→(∃ p ∈ qs,p.1 = -1 - (v:Int)∧bs.getD v 0=p.2)∨((∀ p ∈ qs,p.1≠-1 - (v:Int))∧bs.getD v 0 = -1)
theorem getD_set_eq {bs:List Int}{v:Nat}{s:Int}(h:v < bs.length):(bs.set v s).getD v 0=s:=by
 rw[List.getD_eq_getElem?_getD,List.getElem?_set_self h];rfl
theorem getD_set_ne {bs:List Int}{v u:Nat}{s:Int}(h:v≠u):(bs.set v s).getD u 0=bs.getD u 0:=by
 rw[List.getD_eq_getElem?_getD,List.getD_eq_getElem?_getD,List.getElem?_set_ne h]
theorem acc_step {vars:List (List Int)}{bs:List Int}{qs:List (Int × Int)}(h:Rf vars bs qs){e s:Int}(he:-40≤e)(hs:0≤s) :
  ((acceptP vars bs e s).1=true ↔ Con vars ((e,s) :: qs))∧((acceptP vars bs e s).1=true→Rf vars (acceptP vars bs e s).2.2 ((e,s) :: qs)):=by
 have hfin:∀ b':List Int,Con vars ((e,s) :: qs)→b'.length=40→(∀ v:Nat,v < 40→(∃ p ∈ (e,s) :: qs,p.1 = -1 - (v:Int)∧b'.getD v 0=p.2)∨((∀ p ∈ (e,s) :: qs,p.1≠-1 - (v:Int))∧b'.getD v 0 = -1))→Rf vars b' ((e,s) :: qs):=fun b' hc hl ha=>
  ⟨hl,hc,fun p hp=>by rcases List.mem_cons.1 hp with rfl | hp;exact hs;exact h.nn p hp,fun p hp=>by rcases List.mem_cons.1 hp with rfl | hp;exact he;exact h.el p hp,ha⟩
 unfold acceptP;by_cases h0:0≤e
 ·rw[if_pos h0];dsimp only;have hiff:(e == s)=true ↔ Con vars ((e,s) :: qs):=by
   rw[beq_iff_eq];constructor
   ·rintro rfl;refine⟨fun p hp hp0=>?_,fun p hp hp0=>?_,fun p hp q hq hp0 hpq=>?_⟩
    ·rcases List.mem_cons.1 hp with rfl | hp
     ·rfl
     ·exact h.con.1 p hp hp0
    ·rcases List.mem_cons.1 hp with rfl | hp
     ·dsimp only at hp0;omega
     ·exact h.con.2.1 p hp hp0
    ·rcases List.mem_cons.1 hp with rfl | hp
     ·dsimp only at hp0;omega
     ·rcases List.mem_cons.1 hq with rfl | hq
      ·dsimp only at hpq;omega
      ·exact h.con.2.2 p hp q hq hp0 hpq
   ·intro hc;exact hc.1 (e,s) (by simp) h0
  refine⟨hiff,fun hk=>hfin bs (hiff.1 hk) h.len fun v hv=>?_⟩;rcases h.at_ v hv with ⟨p,hp,h1,h2⟩ | ⟨h1,h2⟩
  ·exact .inl ⟨p,List.mem_cons_of_mem _ hp,h1,h2⟩
  ·refine .inr ⟨fun p hp=>?_,h2⟩;rcases List.mem_cons.1 hp with rfl | hp
   ·dsimp only;omega
   ·exact h1 p hp
 ·rw[if_neg h0];obtain⟨v,hv⟩:∃ v:Nat,-1 - e=(v:Int):=⟨(-1 - e).toNat,by omega⟩
  have hv':(-1 - e).toNat=v:=by omega
  have hev:e = -1 - (v:Int):=by omega
  have hv40:v < 40:=by omega
  rw[hv'];by_cases h1:0≤bs.getD v 0
  ·rw[if_pos h1];dsimp only;obtain⟨p,hp,p1,p2⟩:∃ p ∈ qs,p.1 = -1 - (v:Int)∧bs.getD v 0=p.2:=by
    rcases h.at_ v hv40 with h2 | ⟨-,h2⟩
    ·exact h2
    ·omega
   have hiff:(bs.getD v 0 == s)=true ↔ Con vars ((e,s) :: qs):=by
    rw[beq_iff_eq,p2];constructor
    ·rintro rfl;have:(e,p.2) ∈ qs:=by
      have:(e,p.2)=p:=Prod.ext (by rw[hev,p1]) rfl;rw[this];exact hp
     exact h.con.sub fun q hq=>by
      rcases List.mem_cons.1 hq with rfl | hq
      ·exact this
      ·exact hq
    ·intro hc;exact (hc.2.2 (e,s) (by simp) p (by simp[hp]) (by dsimp only;omega) (by dsimp only;rw[p1,hev])).symm
   refine⟨hiff,fun hk=>hfin bs (hiff.1 hk) h.len fun u hu=>?_⟩;rcases h.at_ u hu with ⟨q,hq,h3,h4⟩ | ⟨h3,h4⟩
   ·exact .inl ⟨q,List.mem_cons_of_mem _ hq,h3,h4⟩
   ·refine .inr ⟨fun q hq=>?_,h4⟩;rcases List.mem_cons.1 hq with rfl | hq
    ·dsimp only;intro hh;exact h3 p hp (by rw[p1,← hev,hh])
    ·exact h3 q hq
  ·rw[if_neg h1];have hno:∀ p ∈ qs,p.1≠-1 - (v:Int):=by
    rcases h.at_ v hv40 with ⟨p,hp,-,h2⟩ | ⟨h2,-⟩
    ·have:=h.nn p hp;omega
    ·exact h2
   by_cases hm:s ∈ vars.getD v []
   ·rw[if_pos hm];dsimp only;have hc:Con vars ((e,s) :: qs):=by
     refine⟨fun p hp hp0=>?_,fun p hp hp0=>?_,fun p hp q hq hp0 hpq=>?_⟩
     ·rcases List.mem_cons.1 hp with rfl | hp
      ·dsimp only at hp0;omega
      ·exact h.con.1 p hp hp0
     ·rcases List.mem_cons.1 hp with rfl | hp
      ·dsimp only;rw[hv'];exact hm
      ·exact h.con.2.1 p hp hp0
     ·rcases List.mem_cons.1 hp with rfl | hp
      ·rcases List.mem_cons.1 hq with rfl | hq
       ·rfl
       ·exact absurd hpq.symm (by dsimp only;rw[hev];exact hno q hq)
      ·rcases List.mem_cons.1 hq with rfl | hq
       ·exact absurd hpq (by dsimp only;rw[hev];exact hno p hp)
       ·exact h.con.2.2 p hp q hq hp0 hpq
    refine⟨⟨fun _=>hc,fun _=>rfl⟩,fun _=>hfin _ hc (by rw[List.length_set];exact h.len) fun u hu=>?_⟩;by_cases huv:v=u
    ·subst huv;exact .inl ⟨(e,s),by simp,hev,getD_set_eq (by rw[h.len];exact hv40)⟩
    ·rw[getD_set_ne huv];rcases h.at_ u hu with ⟨q,hq,h3,h4⟩ | ⟨h3,h4⟩
     ·exact .inl ⟨q,List.mem_cons_of_mem _ hq,h3,h4⟩
     ·refine .inr ⟨fun q hq=>?_,h4⟩;rcases List.mem_cons.1 hq with rfl | hq
      ·dsimp only;omega
      ·exact h3 q hq
   ·rw[if_neg hm];dsimp only;refine⟨⟨fun hh=>(by cases hh),fun hc=>absurd (hc.2.1 (e,s) (by simp) (by dsimp only;omega)) (by dsimp only;rw[hv'];exact hm)⟩,fun hh=>by cases hh⟩
def valO (out:Int)(ps:List (Int × Int))(v:Int):Prop:=if 0≤out then v=out else ∃ p ∈ ps,p.1=out∧v=p.2
theorem valO.sub {out:Int}{ps qs:List (Int × Int)}{v:Int}(h:valO out ps v)(hs:∀ p ∈ ps,p ∈ qs):valO out qs v:=by
 unfold valO at h ⊢
 split
 ·rename_i h0;rw[if_pos h0] at h;exact h
 ·rename_i h0;rw[if_neg h0] at h;obtain⟨p,hp,h1,h2⟩:=h;exact⟨p,hs p hp,h1,h2⟩
theorem Rf.val {vars:List (List Int)}{bs:List Int}{qs:List (Int × Int)}(h:Rf vars bs qs){out:Int}(ho:-40≤out)(hm:out < 0→∃ p ∈ qs,p.1=out)(v:Int):valO out qs v ↔ v=outP bs out:=by
 unfold valO outP
 split
 ·exact Iff.rfl
 ·rename_i h0;obtain⟨u,hu⟩:∃ u:Nat,-1 - out=(u:Int):=⟨(-1 - out).toNat,by omega⟩
  have hu':(-1 - out).toNat=u:=by omega
  rw[hu'];obtain⟨p,hp,hpo⟩:=hm (by omega);have hg:bs.getD u 0=p.2:=by
   rcases h.at_ u (by omega) with ⟨q,hq,h3,h4⟩ | ⟨h3,-⟩
   ·rw[h4];exact h.con.2.2 q hq p hp (by omega) (by omega)
   ·exact absurd (show p.1 = -1 - (u:Int) by omega) (h3 p hp)
  rw[hg];constructor
  ·rintro⟨q,hq,h1,h2⟩;rw[h2];exact h.con.2.2 q hq p hp (by omega) (by omega)
  ·intro h1;exact⟨p,hp,hpo,h1⟩
def IsMin (T:Int→Prop)(r:Int × Bool):Prop:=(r=(0,false)∧∀ v,¬ T v)∨(r.2=true∧T r.1∧∀ v,T v→r.1≤v)
theorem IsMin.congr {T U:Int→Prop}{r:Int × Bool}(h:IsMin T r)(e:∀ v,T v ↔ U v):IsMin U r:=by
 rcases h with ⟨h1,h2⟩ | ⟨h1,h2,h3⟩
 ·exact .inl ⟨h1,fun v hv=>h2 v ((e v).2 hv)⟩
 ·exact .inr ⟨h1,(e _).1 h2,fun v hv=>h3 v ((e v).2 hv)⟩
theorem IsMin.uniq {T:Int→Prop}{r q:Int × Bool}(h:IsMin T r)(k:IsMin T q):r=q:=by
 rcases h with ⟨h1,h2⟩ | ⟨h1,h2,h3⟩
 ·rcases k with ⟨k1,-⟩ | ⟨-,k2,-⟩
  ·rw[h1,k1]
  ·exact absurd k2 (h2 _)
 ·rcases k with ⟨-,k2⟩ | ⟨k1,k2,k3⟩
  ·exact absurd h2 (k2 _)
  ·exact Prod.ext (Int.le_antisymm (h3 _ k2) (k3 _ h2)) (by rw[h1,k1])
theorem IsMin.better {T:Int→Prop}{r:Int × Bool}(h:IsMin T r)(n:Int):IsMin (fun v=>T v∨v=n) (better r n):=by
 unfold Proofs.YtcmbdhopmncmnaaGreatDoor.better;rcases h with ⟨h1,h2⟩ | ⟨h1,h2,h3⟩
 ·rw[if_pos (.inl (by rw[h1]))];exact .inr ⟨rfl,.inr rfl,fun v hv=>by rcases hv with hv | rfl;exact absurd hv (h2 v);exact Int.le_refl _⟩
 ·by_cases hn:n < r.1
  ·rw[if_pos (.inr hn)];exact .inr ⟨rfl,.inr rfl,fun v hv=>by
    rcases hv with hv | rfl
    ·have:=h3 v hv;dsimp only;omega
    ·exact Int.le_refl _⟩
  ·rw[if_neg (by rintro (h | h);rw[h1] at h;cases h;exact hn h)];exact .inr ⟨h1,.inl h2,fun v hv=>by
    rcases hv with hv | rfl
    ·exact h3 v hv
    ·omega⟩
theorem IsMin.none {T:Int→Prop}(h:∀ v,¬ T v):IsMin T (0,false):=.inl ⟨rfl,h⟩
def Tset (vars:List (List Int))(out:Int)(qs:List (Int × Int))(E A:List Int)(v:Int):Prop:=
 ∃ ps:List (Int × Int),(ps.map Prod.fst).Perm E∧(ps.map Prod.snd).Perm A∧Con vars (ps ++ qs)∧valO out (ps ++ qs) v
theorem Tset.permA {vars:List (List Int)}{out:Int}{qs:List (Int × Int)}{E A B:List Int}{v:Int}(h:Tset vars out qs E A v)(hp:A.Perm B):Tset vars out qs E B v:=by
 obtain⟨ps,h1,h2,h3⟩:=h;exact⟨ps,h1,h2.trans hp,h3⟩
theorem Tset.permE {vars:List (List Int)}{out:Int}{qs:List (Int × Int)}{E F A:List Int}{v:Int}(h:Tset vars out qs E A v)(hp:E.Perm F):Tset vars out qs F A v:=by
 obtain⟨ps,h1,h2,h3⟩:=h;exact⟨ps,h1.trans hp,h2,h3⟩
theorem Tset.consE {vars:List (List Int)}{out:Int}{qs:List (Int × Int)}{e:Int}{E A:List Int}{v:Int} :
  Tset vars out qs (e :: E) A v ↔ ∃ s B,A.Perm (s :: B)∧Con vars ((e,s) :: qs)∧Tset vars out ((e,s) :: qs) E B v:=by
 constructor
 ·rintro⟨ps,h1,h2,h3,h4⟩;have:e ∈ ps.map Prod.fst:=h1.mem_iff.2 (by simp);obtain⟨p,hp,rfl⟩:=List.mem_map.1 this;have hpe:=List.perm_cons_erase hp;have g1:((ps.erase p).map Prod.fst).Perm E:=by
   have:=(hpe.map Prod.fst).symm.trans h1;rw[List.map_cons] at this;exact (List.perm_cons p.1).1 this
  refine⟨p.2,(ps.erase p).map Prod.snd,?_,?_,ps.erase p,g1,List.Perm.refl _,?_,?_⟩
  ·have:=h2.symm.trans (hpe.map Prod.snd);rwa [List.map_cons] at this
  ·exact h3.sub fun q hq=>by
    rcases List.mem_cons.1 hq with rfl | hq
    ·exact List.mem_append_left _ hp
    ·exact List.mem_append_right _ hq
  ·exact h3.sub fun q hq=>by
    rcases List.mem_append.1 hq with hq | hq
    ·exact List.mem_append_left _ (List.mem_of_mem_erase hq)
    ·rcases List.mem_cons.1 hq with rfl | hq
     ·exact List.mem_append_left _ hp
     ·exact List.mem_append_right _ hq
  ·exact h4.sub fun q hq=>by
    rcases List.mem_append.1 hq with hq | hq
    ·rcases List.mem_cons.1 (hpe.mem_iff.1 hq) with rfl | hq
     ·exact List.mem_append_right _ (by simp)
     ·exact List.mem_append_left _ hq
    ·exact List.mem_append_right _ (List.mem_cons_of_mem _ hq)
 ·rintro⟨s,B,hA,hc,ps,h1,h2,h3,h4⟩;refine⟨(e,s) :: ps,?_,?_,h3.sub ?_,h4.sub ?_⟩
  ·rw[List.map_cons];exact (List.perm_cons e).2 h1
  ·rw[List.map_cons];exact ((List.perm_cons s).2 h2).trans hA.symm
  ·intro q hq;rw[List.cons_append] at hq;rcases List.mem_cons.1 hq with rfl | hq
   ·exact List.mem_append_right _ (by simp)
   ·rcases List.mem_append.1 hq with hq | hq
    ·exact List.mem_append_left _ hq
    ·exact List.mem_append_right _ (List.mem_cons_of_mem _ hq)
  ·intro q hq;rw[List.cons_append];rcases List.mem_append.1 hq with hq | hq
   ·exact List.mem_cons_of_mem _ (List.mem_append_left _ hq)
   ·rcases List.mem_cons.1 hq with rfl | hq
    ·simp
    ·exact List.mem_cons_of_mem _ (List.mem_append_right _ hq)
theorem Tset.consA {vars:List (List Int)}{out:Int}{qs:List (Int × Int)}{s:Int}{E A:List Int}{v:Int} :
  Tset vars out qs E (s :: A) v ↔ ∃ e F,E.Perm (e :: F)∧Con vars ((e,s) :: qs)∧Tset vars out ((e,s) :: qs) F A v:=by
 constructor
 ·rintro⟨ps,h1,h2,h3,h4⟩;have:s ∈ ps.map Prod.snd:=h2.mem_iff.2 (by simp);obtain⟨p,hp,rfl⟩:=List.mem_map.1 this;have hpe:=List.perm_cons_erase hp;have g1:((ps.erase p).map Prod.snd).Perm A:=by
   have:=(hpe.map Prod.snd).symm.trans h2;rw[List.map_cons] at this;exact (List.perm_cons p.2).1 this
  refine⟨p.1,(ps.erase p).map Prod.fst,?_,?_,ps.erase p,List.Perm.refl _,g1,?_,?_⟩
  ·have:=h1.symm.trans (hpe.map Prod.fst);rwa [List.map_cons] at this
  ·exact h3.sub fun q hq=>by
    rcases List.mem_cons.1 hq with rfl | hq
    ·exact List.mem_append_left _ hp
    ·exact List.mem_append_right _ hq
  ·exact h3.sub fun q hq=>by
    rcases List.mem_append.1 hq with hq | hq
    ·exact List.mem_append_left _ (List.mem_of_mem_erase hq)
    ·rcases List.mem_cons.1 hq with rfl | hq
     ·exact List.mem_append_left _ hp
     ·exact List.mem_append_right _ hq
  ·exact h4.sub fun q hq=>by
    rcases List.mem_append.1 hq with hq | hq
    ·rcases List.mem_cons.1 (hpe.mem_iff.1 hq) with rfl | hq
     ·exact List.mem_append_right _ (by simp)
     ·exact List.mem_append_left _ hq
    ·exact List.mem_append_right _ (List.mem_cons_of_mem _ hq)
 ·rintro⟨e,F,hE,hc,hT⟩;have:Tset vars out qs (e :: F) (s :: A) v:=Tset.consE.2 ⟨s,A,List.Perm.refl _,hc,hT⟩;exact this.permE hE.symm
theorem Tset.nil {vars:List (List Int)}{out:Int}{qs:List (Int × Int)}{v:Int}(hc:Con vars qs):Tset vars out qs [] [] v ↔ valO out qs v:=by
 constructor
 ·rintro⟨ps,h1,-,-,h4⟩;have:ps=[]:=List.map_eq_nil_iff.1 (List.perm_nil.1 h1);subst this;simpa using h4
 ·intro h;exact⟨[],List.Perm.refl _,List.Perm.refl _,by simpa using hc,by simpa using h⟩
def elL (ins:List Int)(n:Nat)(c:Int):Nat→List Int
 | 0=>[]
 | L+1=>if ((n - (L+1):Nat):Int)=c then elL ins n c L else ins.getD (n - (L+1)) 0 :: elL ins n c L
def Av (c:Int)(used:List Bool)(k:Nat):Prop:=(k:Int)≠c∧used.getD k false=false
instance (c:Int) (used:List Bool):DecidablePred (Av c used):=fun k=>by unfold Av;infer_instance
def avL (inn:List Int)(c:Int)(used:List Bool):List Int:=((List.range inn.length).filter (fun k=>decide (Av c used k))).map (fun k=>inn.getD k 0)
theorem filter_split {p q:Nat→Bool}{k:Nat}(hk:p k=true)(hkq:q k=false)(ho:∀ j,j≠k→q j=p j):∀ l:List Nat,l.Nodup→k ∈ l→(l.filter p).Perm (k :: l.filter q)
 | [],_,h=>by cases h
 | x :: l,hn,h=>by
  obtain⟨hx,hn'⟩:=List.nodup_cons.1 hn;by_cases hxk:x=k
  ·subst hxk;rw[List.filter_cons_of_pos hk,List.filter_cons_of_neg (by rw[hkq];simp)];have:l.filter p=l.filter q:=List.filter_congr fun j hj=>(ho j (by rintro rfl;exact hx hj)).symm;rw[this]
  ·have hkl:k ∈ l:=by
    rcases List.mem_cons.1 h with rfl | h
    ·exact absurd rfl hxk
    ·exact h
   have ih:=filter_split hk hkq ho l hn' hkl;by_cases hp:p x=true
   ·rw[List.filter_cons_of_pos hp,List.filter_cons_of_pos (by rw[ho x hxk];exact hp)];exact ((List.perm_cons x).2 ih).trans (List.Perm.swap _ _ _)
   ·rw[List.filter_cons_of_neg hp,List.filter_cons_of_neg (by rw[ho x hxk];exact hp)];exact ih
theorem getDB_set_eq {bs:List Bool}{v:Nat}(h:v < bs.length):(bs.set v true).getD v false=true:=by
 rw[List.getD_eq_getElem?_getD,List.getElem?_set_self h];rfl
theorem getDB_set_ne {bs:List Bool}{v u:Nat}(h:v≠u):(bs.set v true).getD u false=bs.getD u false:=by
 rw[List.getD_eq_getElem?_getD,List.getD_eq_getElem?_getD,List.getElem?_set_ne h]
theorem avL_split {inn:List Int}{c:Int}{used:List Bool}{k:Nat}(hk:k < inn.length)(hu:used.length=inn.length)(ha:Av c used k):(avL inn c used).Perm (inn.getD k 0 :: avL inn c (used.set k true)):=by
 have:=filter_split (p:=fun j=>decide (Av c used j)) (q:=fun j=>decide (Av c (used.set k true) j)) (k:=k) (decide_eq_true ha)
  (decide_eq_false (by rintro⟨-,h⟩;rw[getDB_set_eq (by omega)] at h;cases h))
  (fun j hj=>decide_eq_decide.2 (by unfold Av;rw[getDB_set_ne (Ne.symm hj)])) (List.range inn.length) List.nodup_range (List.mem_range.2 hk)
 have:=this.map (fun k=>inn.getD k 0);rw[List.map_cons] at this;exact this
theorem avL_mem {inn:List Int}{c:Int}{used:List Bool}{s:Int}:s ∈ avL inn c used ↔ ∃ k,k < inn.length∧Av c used k∧inn.getD k 0=s:=by
 unfold avL;rw[List.mem_map];constructor
 ·rintro⟨k,hk,rfl⟩;obtain⟨h1,h2⟩:=List.mem_filter.1 hk;exact⟨k,List.mem_range.1 h1,of_decide_eq_true h2,rfl⟩
 ·rintro⟨k,h1,h2,rfl⟩;exact⟨k,List.mem_filter.2 ⟨List.mem_range.2 h1,decide_eq_true h2⟩,rfl⟩
theorem getD_mem_nn {inn:List Int}(hi:∀ s ∈ inn,0≤s)(k:Nat):0≤inn.getD k 0:=by
 rw[List.getD_eq_getElem?_getD];cases h:inn[k]? with
 | none=>exact Int.le_refl _
 | some s=>exact hi s (List.mem_of_getElem? h)
theorem getD_mem_el {ins:List Int}(hi:∀ s ∈ ins,-40≤s)(k:Nat):-40≤ins.getD k 0:=by
 rw[List.getD_eq_getElem?_getD];cases h:ins[k]? with
 | none=>decide
 | some s=>exact hi s (List.mem_of_getElem? h)
theorem placeP_min {vars:List (List Int)}{ins:List Int}{out:Int}{inn:List Int}{c:Int}(hn:∀ s ∈ inn,0≤s)(he:∀ e ∈ ins,-40≤e)(ho:-40≤out):∀ (L:Nat)(bs:List Int)(used:List Bool)(r:Int × Bool)(T:Int→Prop)(qs:List (Int × Int)),
  L≤inn.length→used.length=inn.length→Rf vars bs qs→(elL ins inn.length c L).length=(avL inn c used).length→(out < 0→(∃ p ∈ qs,p.1=out)∨out ∈ elL ins inn.length c L)→IsMin T r→
  IsMin (fun v=>T v∨Tset vars out qs (elL ins inn.length c L) (avL inn c used) v) (placeP vars ins out inn c L bs used r)
 | 0,bs,used,r,T,qs,_,hu,hR,hl,hm,hT=>by
  unfold placeP;have hA:avL inn c used=[]:=List.length_eq_zero_iff.1 hl.symm;rw[hA];refine (hT.better (outP bs out)).congr fun v=>or_congr Iff.rfl ?_;rw[show elL ins inn.length c 0=[] from rfl,Tset.nil hR.con];refine (hR.val ho (fun h0=>?_) v).symm;rcases hm h0 with h | h
  ·exact h
  ·cases h
 | L+1,bs,used,r,T,qs,hL,hu,hR,hl,hm,hT=>by
  unfold placeP;by_cases hc:((inn.length - (L+1):Nat):Int)=c
  ·rw[if_pos hc];have hE:elL ins inn.length c (L+1)=elL ins inn.length c L:=by rw[elL,if_pos hc]
   rw[hE] at hl hm ⊢;exact placeP_min hn he ho L bs used r T qs (by omega) hu hR hl hm hT
  ·rw[if_neg hc];obtain⟨e,hee⟩:∃ e,e=ins.getD (inn.length - (L+1)) 0:=⟨_,rfl⟩
   have hE:elL ins inn.length c (L+1)=e :: elL ins inn.length c L:=by rw[elL,if_neg hc,hee]
   rw[hE] at hl hm ⊢;rw[← hee];have he40:-40≤e:=by rw[hee];exact getD_mem_el he _
   obtain⟨E,hEE⟩:∃ E,E=elL ins inn.length c L:=⟨_,rfl⟩
   rw[← hEE] at hl hm ⊢;have ih:=placeP_min hn he ho (vars:=vars) (inn:=inn) (c:=c) L;rw[← hEE] at ih;have key:∀ m:Nat,m≤inn.length→
     (∀ s,s ∈ ((List.range m).foldl (fun (x:List Int × (Int × Bool)) (k:Nat)=>if (k:Int)=c∨used.getD k false=true∨inn.getD k 0 ∈ x.1 then x else (inn.getD k 0 :: x.1,if (acceptP vars bs e (inn.getD k 0)).1=true then placeP vars ins out inn c L (acceptP vars bs e (inn.getD k 0)).2.2 (used.set k true) x.2 else x.2)) ([],r)).1 ↔ ∃ k,k < m∧Av c used k∧inn.getD k 0=s)∧
     IsMin (fun v=>T v∨∃ k,k < m∧Av c used k∧Con vars ((e,inn.getD k 0) :: qs)∧Tset vars out ((e,inn.getD k 0) :: qs) E (avL inn c (used.set k true)) v) ((List.range m).foldl (fun (x:List Int × (Int × Bool)) (k:Nat)=>if (k:Int)=c∨used.getD k false=true∨inn.getD k 0 ∈ x.1 then x else (inn.getD k 0 :: x.1,if (acceptP vars bs e (inn.getD k 0)).1=true then placeP vars ins out inn c L (acceptP vars bs e (inn.getD k 0)).2.2 (used.set k true) x.2 else x.2)) ([],r)).2:=by
    intro m;induction m with
    | zero=>
     intro _;refine⟨fun s=>⟨fun h=>(by cases h),fun ⟨k,hk,_⟩=>absurd hk (Nat.not_lt_zero _)⟩,hT.congr fun v=>⟨.inl,fun h=>?_⟩⟩;rcases h with h | ⟨k,hk,-⟩
     ·exact h
     ·exact absurd hk (Nat.not_lt_zero _)
    | succ m ih2=>
     intro hm';obtain⟨i1,i2⟩:=ih2 (by omega);rw[List.range_succ,List.foldl_append,List.foldl_cons,List.foldl_nil];obtain⟨x,hx⟩:∃ x,x=(List.range m).foldl (fun (x:List Int × (Int × Bool)) (k:Nat)=>if (k:Int)=c∨used.getD k false=true∨inn.getD k 0 ∈ x.1 then x else (inn.getD k 0 :: x.1,if (acceptP vars bs e (inn.getD k 0)).1=true then placeP vars ins out inn c L (acceptP vars bs e (inn.getD k 0)).2.2 (used.set k true) x.2 else x.2)) ([],r):=⟨_,rfl⟩
     rw[← hx] at i1 i2 ⊢;by_cases h1:(m:Int)=c∨used.getD m false=true
     ·have hna:¬ Av c used m:=by
       rintro⟨a,b⟩;rcases h1 with h1 | h1
       ·exact a h1
       ·rw[b] at h1;cases h1
      rw[if_pos (by rcases h1 with h1 | h1;exact .inl h1;exact .inr (.inl h1))];refine⟨fun s=>(i1 s).trans ⟨fun ⟨k,hk,hh⟩=>⟨k,by omega,hh⟩,fun ⟨k,hk,hh⟩=>?_⟩,i2.congr fun v=>or_congr Iff.rfl ⟨fun ⟨k,hk,hh⟩=>⟨k,by omega,hh⟩,fun ⟨k,hk,hh⟩=>?_⟩⟩
      ·rcases Nat.lt_succ_iff_lt_or_eq.1 hk with hk | rfl
       ·exact⟨k,hk,hh⟩
       ·exact absurd hh.1 hna
      ·rcases Nat.lt_succ_iff_lt_or_eq.1 hk with hk | rfl
       ·exact⟨k,hk,hh⟩
       ·exact absurd hh.1 hna
     ·have hav:Av c used m:=⟨fun h=>h1 (.inl h),by cases h:used.getD m false;rfl;exact absurd (.inr h) h1⟩
      by_cases h2:inn.getD m 0 ∈ x.1
      ·rw[if_pos (.inr (.inr h2))];obtain⟨j,hj,hja,hjs⟩:=(i1 _).1 h2;refine⟨fun s=>(i1 s).trans ⟨fun ⟨k,hk,hh⟩=>⟨k,by omega,hh⟩,fun ⟨k,hk,hh⟩=>?_⟩,i2.congr fun v=>or_congr Iff.rfl ⟨fun ⟨k,hk,hh⟩=>⟨k,by omega,hh⟩,fun ⟨k,hk,hh⟩=>?_⟩⟩
       ·rcases Nat.lt_succ_iff_lt_or_eq.1 hk with hk | rfl
        ·exact⟨k,hk,hh⟩
        ·exact⟨j,hj,hja,hjs.trans hh.2⟩
       ·rcases Nat.lt_succ_iff_lt_or_eq.1 hk with hk | rfl
        ·exact⟨k,hk,hh⟩
        ·refine⟨j,hj,hja,by rw[hjs];exact hh.2.1,?_⟩;rw[hjs];refine hh.2.2.permA ?_;have p1:=avL_split (by omega) hu hja;have p2:=avL_split (by omega) hu hav;rw[hjs] at p1;exact (List.perm_cons _).1 (p2.symm.trans p1)
      ·rw[if_neg (by rintro (h | h | h);exact h1 (.inl h);exact h1 (.inr h);exact h2 h)];have hsm:=acc_step hR he40 (getD_mem_nn hn m);refine⟨fun s=>?_,?_⟩
       ·rw[List.mem_cons];constructor
        ·rintro (rfl | h)
         ·exact⟨m,by omega,hav,rfl⟩
         ·obtain⟨k,hk,hh⟩:=(i1 s).1 h;exact⟨k,by omega,hh⟩
        ·rintro⟨k,hk,hh⟩;rcases Nat.lt_succ_iff_lt_or_eq.1 hk with hk | rfl
         ·exact .inr ((i1 s).2 ⟨k,hk,hh⟩)
         ·exact .inl hh.2.symm
       ·dsimp only;by_cases h3:(acceptP vars bs e (inn.getD m 0)).1=true
        ·rw[if_pos h3];have hsp:=avL_split (show m < inn.length by omega) hu hav;have hlen:E.length=(avL inn c (used.set m true)).length:=by
          have:=hsp.length_eq;rw[List.length_cons] at this hl;omega
         have:=ih (acceptP vars bs e (inn.getD m 0)).2.2 (used.set m true) x.2 _ ((e,inn.getD m 0) :: qs) (by omega) (by rw[List.length_set];exact hu) (hsm.2 h3) hlen (fun h0=>by
          rcases hm h0 with ⟨p,hp,hpo⟩ | h
          ·exact .inl ⟨p,List.mem_cons_of_mem _ hp,hpo⟩
          ·rcases List.mem_cons.1 h with h | h
           ·exact .inl ⟨(e,inn.getD m 0),by simp,h.symm⟩
           ·exact .inr h) i2
         refine this.congr fun v=>?_;constructor
         ·rintro ((h | ⟨k,hk,hh⟩) | h)
          ·exact .inl h
          ·exact .inr ⟨k,by omega,hh⟩
          ·exact .inr ⟨m,by omega,hav,hsm.1.1 h3,h⟩
         ·rintro (h | ⟨k,hk,hh⟩)
          ·exact .inl (.inl h)
          ·rcases Nat.lt_succ_iff_lt_or_eq.1 hk with hk | rfl
           ·exact .inl (.inr ⟨k,hk,hh⟩)
           ·exact .inr hh.2.2
        ·rw[if_neg h3];refine i2.congr fun v=>or_congr Iff.rfl ⟨fun ⟨k,hk,hh⟩=>⟨k,by omega,hh⟩,fun ⟨k,hk,hh⟩=>?_⟩;rcases Nat.lt_succ_iff_lt_or_eq.1 hk with hk | rfl
         ·exact⟨k,hk,hh⟩
         ·exact absurd (hsm.1.2 hh.2.1) h3
   refine (key inn.length (Nat.le_refl _)).2.congr fun v=>or_congr Iff.rfl ?_;rw[Tset.consE];constructor
   ·rintro⟨k,hk,hav,hc',hT'⟩;exact⟨inn.getD k 0,_,avL_split hk hu hav,hc',hT'⟩
   ·rintro⟨s,B,hA,hc',hT'⟩;obtain⟨k,hk,hav,rfl⟩:=avL_mem.1 (hA.mem_iff.2 (by simp:s ∈ s :: B));exact⟨k,hk,hav,hc',hT'.permA ((List.perm_cons _).1 (hA.symm.trans (avL_split hk hu hav)))⟩
theorem elL_eq (ins:List Int)(n:Nat)(c:Int):∀ L:Nat,L≤n→elL ins n c L=((List.range' (n - L) L).filter (fun (k:Nat)=>decide ((k:Int)≠c))).map (fun (k:Nat)=>ins.getD k 0)
 | 0,_=>by simp[elL]
 | L+1,h=>by
  unfold elL;rw[List.range'_succ,show n - (L+1)+1=n - L by omega];by_cases hc:((n - (L+1):Nat):Int)=c
  ·rw[if_pos hc,List.filter_cons_of_neg (by simp[hc]),elL_eq ins n c L (by omega)]
  ·rw[if_neg hc,List.filter_cons_of_pos (by simp[hc]),List.map_cons,elL_eq ins n c L (by omega)]
def offC (l:List Int)(n:Nat)(c:Int):List Int:=((List.range n).filter (fun (k:Nat)=>decide ((k:Int)≠c))).map (fun (k:Nat)=>l.getD k 0)
theorem elL_full (ins:List Int)(n:Nat)(c:Int):elL ins n c n=offC ins n c:=by
 rw[elL_eq ins n c n (Nat.le_refl _),Nat.sub_self,← List.range_eq_range'];rfl
theorem avL_full (inn:List Int)(c:Int):avL inn c (List.replicate inn.length false)=offC inn inn.length c:=by
 unfold avL offC
 congr 1
 refine List.filter_congr fun k hk=>decide_eq_decide.2 ?_;unfold Av;have:(List.replicate inn.length false).getD k false=false:=by
  rw[List.getD_eq_getElem?_getD];cases h:(List.replicate inn.length false)[k]? with
  | none=>rfl
  | some b=>exact (List.mem_replicate.1 (List.mem_of_getElem? h)).2
 rw[this];exact and_iff_left rfl
def ctrQ (ins inn:List Int)(c:Int):List (Int × Int):=if 0≤c then [(ins.getD c.toNat 0,inn.getD c.toNat 0)] else []
def PmT (vars:List (List Int))(ins:List Int)(out:Int)(inn:List Int)(c:Int)(v:Int):Prop:=
 Con vars (ctrQ ins inn c)∧Tset vars out (ctrQ ins inn c) (offC ins inn.length c) (offC inn inn.length c) v
theorem Rf.neg {vars:List (List Int)}:Rf vars negL []:=⟨by decide,Con.nil,by simp,by simp,fun v hv=>.inr ⟨by simp,by
 have:∀ v:Fin 40,negL.getD v.1 0 = -1:=by decide
 exact this ⟨v,hv⟩⟩⟩
theorem offC_mem {l:List Int}{n:Nat}{c x:Int}(hl:l.length=n):x ∈ offC l n c→x ∈ l:=by
 intro h;unfold offC at h;obtain⟨k,hk,rfl⟩:=List.mem_map.1 h;have hkn:=List.mem_range.1 (List.mem_filter.1 hk).1;rw[List.getD_eq_getElem?_getD,List.getElem?_eq_getElem (by omega)];exact List.getElem_mem _
theorem mem_offC {l:List Int}{n:Nat}{c x:Int}(hl:l.length=n)(h:x ∈ l):x ∈ offC l n c∨(0≤c∧x=l.getD c.toNat 0):=by
 obtain⟨k,hk,rfl⟩:=List.getElem_of_mem h;have hg:l.getD k 0=l[k]:=by rw[List.getD_eq_getElem?_getD,List.getElem?_eq_getElem hk];rfl
 by_cases hc:(k:Int)=c
 ·refine .inr ⟨by omega,?_⟩;rw[← hc,Int.toNat_natCast,hg]
 ·refine .inl (List.mem_map.2 ⟨k,List.mem_filter.2 ⟨List.mem_range.2 (by omega),by simp[hc]⟩,hg⟩)
theorem permutedP_min {vars:List (List Int)}{hood:List (Int × Int)}{ins:List Int}{out:Int}{inn:List Int}(hn:∀ s ∈ inn,0≤s)(he:∀ e ∈ ins,-40≤e)(ho:-40≤out)(hm:out < 0→out ∈ ins)(hl:ins.length=inn.length) :
  IsMin (PmT vars ins out inn (ctrP hood)) (permutedP hood vars ins out inn):=by
 unfold permutedP;obtain⟨c,hc⟩:∃ c,c=ctrP hood:=⟨_,rfl⟩
 rw[← hc];have hlen:(elL ins inn.length c inn.length).length=(avL inn c (List.replicate inn.length false)).length:=by
  rw[elL_full,avL_full];unfold offC;rw[List.length_map,List.length_map]
 have h0:IsMin (fun _=>False) ((0,false):Int × Bool):=IsMin.none fun _ h=>h;unfold PmT ctrQ;by_cases h:0≤c
 ·rw[if_pos h,if_pos h];have hs:=acc_step (Rf.neg (vars:=vars)) (getD_mem_el he c.toNat) (getD_mem_nn hn c.toNat);by_cases ha:(acceptP vars negL (ins.getD c.toNat 0) (inn.getD c.toNat 0)).1=true
  ·rw[if_pos ha];have:=placeP_min hn he ho (c:=c) inn.length _ (List.replicate inn.length false) (0,false) (fun _=>False) _ (Nat.le_refl _) (by simp) (hs.2 ha) hlen (fun h1=>by
    rw[elL_full];rcases mem_offC (c:=c) hl (hm h1) with h2 | ⟨-,h2⟩
    ·exact .inr h2
    ·exact .inl ⟨_,List.mem_cons_self,h2.symm⟩) h0
   refine this.congr fun v=>?_;rw[elL_full,avL_full];exact⟨fun h=>by rcases h with h | h;exact h.elim;exact⟨hs.1.1 ha,h⟩,fun h=>.inr h.2⟩
  ·rw[if_neg ha];exact IsMin.none fun v hv=>ha (hs.1.2 hv.1)
 ·rw[if_neg h,if_neg h];have:=placeP_min hn he ho (c:=c) inn.length negL (List.replicate inn.length false) (0,false) (fun _=>False) [] (Nat.le_refl _) (by simp) (Rf.neg (vars:=vars)) hlen (fun h1=>by
    rw[elL_full];rcases mem_offC (c:=c) hl (hm h1) with h2 | ⟨h3,-⟩
    ·exact .inr h2
    ·exact absurd h3 h) h0
  refine this.congr fun v=>?_;rw[elL_full,avL_full];exact⟨fun h=>by rcases h with h | h;exact h.elim;exact⟨Con.nil,h⟩,fun h=>.inr h.2⟩
end Go.Proofs.YtcmbdhopmncmnaaGreatDoor
namespace Go.Proofs.YtcmbdhopmncmnaaGreatDoor
open Go.RowKit Go.Maps
set_option maxRecDepth 100000
set_option linter.unusedVariables false
set_option linter.unusedSimpArgs false
theorem Tryz.infoBool:(Tryz.prog.info? 4).map (fun i=>(i.zero,i.size,i.bytes))=some (some (.bool false),1,1):=by kernel_rfl
def OwnBl (w:World)(base:Nat)(v:Value)(al:List Bool):Prop:=w.ownsRow base 4 1 v al.length (al.map Value.bool)
theorem OwnBl.set {w:World}{base g n c:Nat}{al:List Bool}(h:OwnBl w base (.slice (some ⟨g,0,none⟩) n c) al)(j:Nat)(b:Bool):OwnBl (w.setCell ⟨g,j,none⟩ (.bool b)) base (.slice (some ⟨g,0,none⟩) n c) (al.set j b):=by
 have hn:=own_form h;obtain⟨A,c',e,-,-⟩:=hn;injection e with _ e2 _
 subst e2;have:=(World.ownsRow.stored h j (.bool b)).1;unfold OwnBl;rw[List.length_set,List.map_set];exact this
theorem OwnBl.cellk {w:World}{base g n c:Nat}{al:List Bool}(h:OwnBl w base (.slice (some ⟨g,0,none⟩) n c) al){k:Nat}(hk:k < al.length):w.cell? ⟨g,k,none⟩=some (.bool (al.getD k false))∧w.frozen? ⟨g,k,none⟩=false:=by
 obtain⟨A,c',e,-,-⟩:=own_form h;injection e with _ e2 _
 subst e2;have h4:=World.ownsRow.cells h rfl k (.bool (al.getD k false)) (by rw[List.getElem?_map,List.getElem?_eq_getElem hk,List.getD_eq_getElem?_getD,List.getElem?_eq_getElem hk];rfl);have h5:=World.ownsRow.frozenAt h k;simp only[addr_add,Nat.zero_add] at h4 h5;exact⟨h4,h5⟩
theorem own_weak {w:World}{b b' size n:Nat}{e:TypeId}{v:Value}{xs:List Value}(h:w.ownsRow b e size v n xs)(hb:b'≤b):w.ownsRow b' e size v n xs:=by
 obtain⟨h1,h2⟩:=h;refine⟨h1,?_⟩;rcases h2 with h2 | ⟨g,cap,cur,h3,h4,h5,h6⟩
 ·exact .inl h2
 ·exact .inr ⟨g,cap,cur,h3,Nat.le_trans hb h4,h5,h6⟩
end Go.Proofs.YtcmbdhopmncmnaaGreatDoor
namespace Go.Proofs.YtcmbdhopmncmnaaGreatDoor
open Go.RowKit
set_option linter.unusedVariables false
set_option linter.unusedSimpArgs false
set_option maxRecDepth 100000
def gtB (a b:Int × Int):Bool:=decide (0 < ordP a.1 a.2 b.1 b.2)
theorem gtB_iff (a b:Int × Int):gtB a b=true ↔ b.2 < a.2∨(b.2=a.2∧b.1 < a.1):=by
 unfold gtB ordP Lib.compareInt;rw[decide_eq_true_iff];by_cases h1:a.2 < b.2
 ·simp[h1];omega
 ·by_cases h2:b.2 < a.2
  ·simp[h1,h2]
  ·have h3:b.2=a.2:=by omega
   by_cases h4:a.1 < b.1
   ·simp[h3,h4];omega
   ·by_cases h5:b.1 < a.1
    ·simp[h3,h4,h5]
    ·simp[h3,h4,h5]
theorem chainH_pw:∀ (l:List (Int × Int))(q:Option (Int × Int)),chainH q l=true→l.Pairwise (fun a b=>gtB b a=true)∧∀ a,q=some a→∀ b ∈ l,gtB b a=true
 | [],_,_=>⟨.nil,fun _ _ _ h=>absurd h (by simp)⟩
 | p :: l,q,h=>by
  simp only[chainH,Bool.and_eq_true] at h;obtain⟨h1,h2⟩:=chainH_pw l (some p) h.2;have h3:=h2 p rfl;refine⟨List.pairwise_cons.2 ⟨h3,h1⟩,fun a e b hb=>?_⟩;subst e;have h4:gtB p a=true:=by
   have:=h.1;simp only[okH,Bool.and_eq_true,decide_eq_true_eq] at this;have:=this.2;rw[gtB_iff];unfold ordP Lib.compareInt at this;by_cases c1:a.2 < p.2
   ·exact .inl c1
   ·by_cases c2:p.2 < a.2
    ·simp[c1,c2] at this
    ·have c3:a.2=p.2:=by omega
     by_cases c4:a.1 < p.1
     ·exact .inr ⟨c3,c4⟩
     ·exfalso;by_cases c5:p.1 < a.1
      ·simp[c3,c4,c5] at this
      ·simp[c3,c4,c5] at this
  rcases List.mem_cons.1 hb with e | hb
  ·subst e;exact h4
  ·have:=h3 b hb;rw[gtB_iff] at *;omega
theorem hood_nodup {ps:List (Int × Int)}(h:hoodB ps=true):ps.Nodup:=by
 unfold hoodB at h;rw[Bool.and_eq_true] at h;have:=(chainH_pw ps none h.2).1;refine this.imp fun {a b} h e=>?_;subst e;rw[gtB_iff] at h;omega
theorem idxF_at {ps:List (Int × Int)}(hn:ps.Nodup){i:Nat}(hi:i < ps.length):idxF ps[i] 0 ps=(i:Int):=by
 have key:∀ (n k:Nat),n+k=i→k≤i→idxF ps[i] k (ps.drop k)=(i:Int):=by
  intro n;induction n with
  | zero=>
   intro k hk _;obtain rfl:k=i:=by omega
   rw[idxF_step hi,if_pos rfl]
  | succ n ih=>
   intro k hk hki;have hkl:k < ps.length:=by omega
   rw[idxF_step hkl,if_neg (fun e=>by
    have:=(List.getElem_inj hn).1 e;omega)]
   exact ih (k+1) (by omega) (by omega)
 have:=key i 0 (by omega) (Nat.zero_le _);rwa [List.drop_zero] at this
theorem turned0 {ps:List (Int × Int)}(h:hoodB ps=true){inn:List Int}(hl:inn.length=ps.length):turnedP ps 0 inn=inn:=by
 unfold turnedP;refine List.ext_getElem (by rw[List.length_map,hl]) fun i h1 h2=>?_;rw[List.length_map] at h1;rw[List.getElem_map,symP_0,idxF_at (hood_nodup h) h1,Int.toNat_natCast,List.getD_eq_getElem?_getD,List.getElem?_eq_getElem h2];rfl
end Go.Proofs.YtcmbdhopmncmnaaGreatDoor
namespace Go.Proofs.YtcmbdhopmncmnaaGreatDoor
open Go.RowKit Go.Maps
set_option maxRecDepth 100000
set_option linter.unusedVariables false
set_option linter.unusedSimpArgs false
def PlT (gF gX g ub:Nat)(x:Nat):Prop:=x=g∨x=ub∨x=gF∨x=gX
structure PlD (B gin gb gr gF gX gc gp gu gt g ub:Nat):Prop where
 lo:∀ x,PlT gF gX g ub x→B≤x
 ne:∀ x,PlT gF gX g ub x→x≠gin∧x≠gb∧x≠gr∧x≠gc∧x≠gp∧x≠gu∧x≠gt
 df:g≠ub∧g≠gF∧g≠gX∧ub≠gF∧ub≠gX∧gF≠gX
structure PlS (W0:World)(gin gb gr gF gX gc gp gu gt g ub:Nat)(iA:Option Addr)(ic:Nat)(inn:List Int)(zA:Option Addr)(zc:Nat)(ins:List Int)(out c:Int)(hA vA rA:Option Addr)(hc vc rc:Nat)(t:TabH)(bs:List Int)(used:List Bool)(r:Int × Bool)(w:World):Prop where
 low:Below W0.heap.size W0 w
 bi:Blk w gin 30 #[.slice iA inn.length ic]
 bb:Blk w gb 120 #[.pointer (some ⟨g,0,none⟩)]
 br:Blk w gr 48 #[.slice zA ins.length zc,.int .i64 out]
 bc:Blk w gc 3 #[.int .i64 c]
 bp:Blk w gp 125 #[.func (.func 113) #[] #[.pointer (some ⟨gin,0,none⟩),.pointer (some ⟨gb,0,none⟩),.pointer (some ⟨gr,0,none⟩),.pointer (some ⟨gF,0,none⟩),.pointer (some ⟨gX,0,none⟩),.pointer (some ⟨gc,0,none⟩),.pointer (some ⟨gp,0,none⟩),.pointer (some ⟨gu,0,none⟩),.pointer (some ⟨gt,0,none⟩)]]
 bu:Blk w gu 124 #[.slice (some ⟨ub,0,none⟩) inn.length inn.length]
 bt:Blk w gt 26 #[.int .i64 t.st,.int .i64 t.sym,.slice hA t.hood.length hc,.slice vA t.vs.length vc,.slice rA t.rs.length rc]
 bf:Blk w gF 4 #[.bool r.2]
 bx:Blk w gX 3 #[.int .i64 r.1]
 bd:BindB w g bs
 us:OwnBl w W0.heap.size (.slice (some ⟨ub,0,none⟩) inn.length inn.length) used
section
variable {W0 : World} {gin gb gr gF gX gc gp gu gt g ub : Nat} {iA : Option Addr} {ic : Nat} {inn : List Int} {zA : Option Addr} {zc : Nat} {ins : List Int} {out c : Int} {hA vA rA : Option Addr} {hc vc rc : Nat} {t : TabH} {bs bs' : List Int} {used : List Bool} {r r' : Int × Bool} {w w' : World}
theorem PlS.move {used':List Bool}(h:PlS W0 gin gb gr gF gX gc gp gu gt g ub iA ic inn zA zc ins out c hA vA rA hc vc rc t bs used r w)(hd:PlD W0.heap.size gin gb gr gF gX gc gp gu gt g ub)(k:Kept (PlT gF gX g ub) w w')(hf:Blk w' gF 4 #[.bool r'.2])(hx:Blk w' gX 3 #[.int .i64 r'.1])(hb:BindB w' g bs')(hu:OwnBl w' W0.heap.size (.slice (some ⟨ub,0,none⟩) inn.length inn.length) used') :
  PlS W0 gin gb gr gF gX gc gp gu gt g ub iA ic inn zA zc ins out c hA vA rA hc vc rc t bs' used' r' w':=
 ⟨h.low.trans (k.to_below h.low.size (fun x hx e=>by have:=hd.lo x e;omega)),
  k.blk h.bi (fun e=>(hd.ne _ e).1 rfl),k.blk h.bb (fun e=>(hd.ne _ e).2.1 rfl),k.blk h.br (fun e=>(hd.ne _ e).2.2.1 rfl),k.blk h.bc (fun e=>(hd.ne _ e).2.2.2.1 rfl),k.blk h.bp (fun e=>(hd.ne _ e).2.2.2.2.1 rfl),k.blk h.bu (fun e=>(hd.ne _ e).2.2.2.2.2.1 rfl),k.blk h.bt (fun e=>(hd.ne _ e).2.2.2.2.2.2 rfl),hf,hx,hb,hu⟩
theorem PlS.bind (h:PlS W0 gin gb gr gF gX gc gp gu gt g ub iA ic inn zA zc ins out c hA vA rA hc vc rc t bs used r w)(hd:PlD W0.heap.size gin gb gr gF gX gc gp gu gt g ub)(k:Kept (fun x=>x=g) w w')(hb:BindB w' g bs'):PlS W0 gin gb gr gF gX gc gp gu gt g ub iA ic inn zA zc ins out c hA vA rA hc vc rc t bs' used r w':=
 h.move hd (k.mono (fun x _ e=>.inl e)) (k.blk h.bf (fun e=>hd.df.2.1 e.symm)) (k.blk h.bx (fun e=>hd.df.2.2.1 e.symm)) hb (k.own h.us (fun x e hx=>by
  have e2:ub=x:=by simpa [Value.ownBlock] using e
  exact hd.df.1 (hx.symm.trans e2.symm)))
theorem PlS.same (h:PlS W0 gin gb gr gF gX gc gp gu gt g ub iA ic inn zA zc ins out c hA vA rA hc vc rc t bs used r w)(hd:PlD W0.heap.size gin gb gr gF gX gc gp gu gt g ub)(k:Below w.heap.size w w'):PlS W0 gin gb gr gF gX gc gp gu gt g ub iA ic inn zA zc ins out c hA vA rA hc vc rc t bs used r w':=
 h.bind hd (Kept.of_new _ k) (h.bd.ext k)
theorem PlS.mark (h:PlS W0 gin gb gr gF gX gc gp gu gt g ub iA ic inn zA zc ins out c hA vA rA hc vc rc t bs used r w)(hd:PlD W0.heap.size gin gb gr gF gX gc gp gu gt g ub)(k:Nat)(b:Bool):PlS W0 gin gb gr gF gX gc gp gu gt g ub iA ic inn zA zc ins out c hA vA rA hc vc rc t bs (used.set k b) r (w.setCell ⟨ub,k,none⟩ (.bool b)):=
 h.move hd ((Kept.refl _ w).setCell (p:=⟨ub,k,none⟩) (.inl (.inr (.inl rfl))) _) (h.bf.far (p:=⟨ub,k,none⟩) (Ne.symm hd.df.2.2.2.1) _) (h.bx.far (p:=⟨ub,k,none⟩) (Ne.symm hd.df.2.2.2.2.1) _) ⟨h.bd.1,h.bd.2.far (p:=⟨ub,k,none⟩) hd.df.1 _⟩ (h.us.set k b)
theorem PlS.back (h:PlS W0 gin gb gr gF gX gc gp gu gt g ub iA ic inn zA zc ins out c hA vA rA hc vc rc t bs used r w)(hd:PlD W0.heap.size gin gb gr gF gX gc gp gu gt g ub)(v:Nat)(z:Int):PlS W0 gin gb gr gF gX gc gp gu gt g ub iA ic inn zA zc ins out c hA vA rA hc vc rc t (bs.set v z) used r (w.setCell ⟨g,v,none⟩ (.int .i64 z)):=
 h.bind hd ((Kept.refl (fun x=>x=g) w).setCell (p:=⟨g,v,none⟩) (.inl rfl) _) (h.bd.set v z)
theorem PlS.found (h:PlS W0 gin gb gr gF gX gc gp gu gt g ub iA ic inn zA zc ins out c hA vA rA hc vc rc t bs used r w)(hd:PlD W0.heap.size gin gb gr gF gX gc gp gu gt g ub)(n:Int):PlS W0 gin gb gr gF gX gc gp gu gt g ub iA ic inn zA zc ins out c hA vA rA hc vc rc t bs used (n,true) ((w.setCell ⟨gX,0,none⟩ (.int .i64 n)).setCell ⟨gF,0,none⟩ (.bool true)):=by
 have hu0:Kept (fun x=>x=gX∨x=gF) w ((w.setCell ⟨gX,0,none⟩ (.int .i64 n)).setCell ⟨gF,0,none⟩ (.bool true)):=((Kept.refl _ w).setCell (p:=⟨gX,0,none⟩) (.inl (.inl rfl)) _).setCell (p:=⟨gF,0,none⟩) (.inl (.inr rfl)) _;refine h.move hd (hu0.mono (fun x _ e=>by rcases e with e | e;exact .inr (.inr (.inr e));exact .inr (.inr (.inl e)))) ?_ ?_ ?_ ?_
 ·exact (h.bf.far (p:=⟨gX,0,none⟩) hd.df.2.2.2.2.2 _).set_ 0 _
 ·exact (h.bx.set_ 0 (.int .i64 n)).far (p:=⟨gF,0,none⟩) (Ne.symm hd.df.2.2.2.2.2) _
 ·exact⟨h.bd.1,hu0.blk h.bd.2 (fun e=>by rcases e with e | e;exact hd.df.2.2.1 e;exact hd.df.2.1 e)⟩
 ·exact hu0.own h.us (fun x e hx=>by
   have e2:ub=x:=by simpa [Value.ownBlock] using e
   rcases hx with hx | hx
   ·exact hd.df.2.2.2.2.1 (e2.trans hx)
   ·exact hd.df.2.2.2.1 (e2.trans hx))
end
def mskL:List Int→Nat
 | []=>0
 | s :: l=>mskL l ||| 2 ^ s.toNat
theorem msk_lt:∀ {l:List Int},(∀ s ∈ l,0≤s∧s < 8)→mskL l < 256
 | [],_=>by unfold mskL;decide
 | s :: l,h=>by
  unfold mskL;have h1:=msk_lt (l:=l) (fun x hx=>h x (by simp[hx]));have h2:=h s (by simp);have h3:2 ^ s.toNat < 2 ^ 8:=Nat.pow_lt_pow_right (by decide) (by omega);exact Nat.or_lt_two_pow (n:=8) h1 h3
theorem msk_mem:∀ {l:List Int},(∀ s ∈ l,0≤s∧s < 8)→∀ s:Nat,(mskL l).testBit s=true ↔ (s:Int) ∈ l
 | [],_,s=>by unfold mskL;simp
 | x :: l,h,s=>by
  unfold mskL;have h2:=h x (by simp);rw[Nat.testBit_or,Bool.or_eq_true,msk_mem (l:=l) (fun y hy=>h y (by simp[hy])) s,Nat.testBit_two_pow,decide_eq_true_eq,List.mem_cons];constructor
  ·rintro (h3 | h3)
   ·exact .inr h3
   ·exact .inl (by omega)
  ·rintro (h3 | h3)
   ·exact .inr (by omega)
   ·exact .inl h3
theorem and1P (m:Nat)(h:m < 256):bits .and .i64 (m:Int) 1=(m:Int) % 2:=by
 have:∀ m:Nat,m < 256→bits .and .i64 (m:Int) 1=(m:Int) % 2:=by decide
 exact this m h
theorem shrP {m:Nat}(h:m < 256)(s:Nat):bits .and .i64 ((m:Int) / 2 ^ s) 1=if m.testBit s=true then 1 else 0:=by
 have e:(m:Int) / 2 ^ s=((m / 2 ^ s:Nat):Int):=by push_cast;rfl
 have hlt:m / 2 ^ s < 256:=Nat.lt_of_le_of_lt (Nat.div_le_self _ _) h;rw[e,and1P _ hlt,Nat.testBit_eq_decide_div_mod_eq];have:m / 2 ^ s % 2 < 2:=Nat.mod_lt _ (by decide);by_cases h1:m / 2 ^ s % 2=1
 ·rw[if_pos (by rw[h1];rfl)];omega
 ·rw[if_neg (by rw[decide_eq_true_eq];exact h1)];omega
set_option maxRecDepth 1000000 in
theorem orP (m:Nat)(h:m < 256)(s:Nat)(hs:s < 8):bits .or .i64 (m:Int) (2 ^ s)=((m ||| 2 ^ s:Nat):Int):=by
 have:∀ s:Fin 8,∀ m:Fin 256,bits .or .i64 ((m.1:Nat):Int) (2 ^ s.1)=((m.1 ||| 2 ^ s.1:Nat):Int):=by decide +kernel
 exact this ⟨s,hs⟩ ⟨m,h⟩
theorem wrapP (s:Nat)(hs:s < 8):wrap64 (2 ^ s)=2 ^ s:=by
 have h1:2 ^ s < 2 ^ 8:=Nat.pow_lt_pow_right (by decide) hs;have h2:(2:Int) ^ s=((2 ^ s:Nat):Int):=by push_cast;rfl
 rw[h2];obtain⟨p,hp⟩:∃ p,p=2 ^ s:=⟨_,rfl⟩
 rw[← hp] at h1 ⊢;unfold wrap64;omega
def plStep (vars:List (List Int))(ins:List Int)(out:Int)(inn:List Int)(c:Int)(L:Nat)(bs:List Int)(used:List Bool)(e:Int)(x:List Int × (Int × Bool))(k:Nat):List Int × (Int × Bool):=
 if (k:Int)=c∨used.getD k false=true∨inn.getD k 0 ∈ x.1 then x else
  (inn.getD k 0 :: x.1,if (acceptP vars bs e (inn.getD k 0)).1=true then placeP vars ins out inn c L (acceptP vars bs e (inn.getD k 0)).2.2 (used.set k true) x.2 else x.2)
def plTo (vars:List (List Int))(ins:List Int)(out:Int)(inn:List Int)(c:Int)(L:Nat)(bs:List Int)(used:List Bool)(e:Int)(r:Int × Bool)(m:Nat):List Int × (Int × Bool):=
 (List.range m).foldl (plStep vars ins out inn c L bs used e) ([],r)
section
variable {vars : List (List Int)} {ins : List Int} {out : Int} {inn : List Int} {c : Int} {L : Nat} {bs : List Int} {used : List Bool} {e : Int} {r : Int × Bool}
theorem plTo_succ (m:Nat):plTo vars ins out inn c L bs used e r (m+1)=plStep vars ins out inn c L bs used e (plTo vars ins out inn c L bs used e r m) m:=by
 unfold plTo;rw[List.range_succ,List.foldl_append];rfl
theorem placeP_succ (h:((inn.length - (L+1):Nat):Int)≠c):placeP vars ins out inn c (L+1) bs used r=(plTo vars ins out inn c L bs used (ins.getD (inn.length - (L+1)) 0) r inn.length).2:=by
 rw[placeP,if_neg h];rfl
theorem plTo_mem (hs:∀ s ∈ inn,0≤s∧s < 8):∀ m,m≤inn.length→∀ s ∈ (plTo vars ins out inn c L bs used e r m).1,0≤s∧s < 8
 | 0,_=>fun s h=>by cases h
 | m+1,hm=>fun s h=>by
  rw[plTo_succ] at h;unfold plStep at h
  split at h
  ·exact plTo_mem hs m (by omega) s h
  ·rcases List.mem_cons.1 h with rfl | h
   ·rw[List.getD_eq_getElem?_getD,List.getElem?_eq_getElem (by omega)];exact hs _ (List.getElem_mem _)
   ·exact plTo_mem hs m (by omega) s h
end
def NegOr (bs:List Int):Prop:=∀ v:Nat,v < 40→0≤bs.getD v 0∨bs.getD v 0 = -1
theorem NegOr.neg:NegOr negL:=fun v hv=>.inr (by
 have:∀ v:Fin 40,negL.getD v.1 0 = -1:=by decide
 exact this ⟨v,hv⟩)
theorem NegOr.set {bs:List Int}(h:NegOr bs){v:Nat}{s:Int}(hs:0≤s):NegOr (bs.set v s):=fun u hu=>by
 by_cases e:v=u
 ·subst e;rw[List.getD_eq_getElem?_getD];by_cases hl:v < bs.length
  ·rw[List.getElem?_set_self hl];exact .inl hs
  ·rw[List.getElem?_eq_none (by rw[List.length_set];omega)];exact .inl (Int.le_refl _)
 ·have:(bs.set v s).getD u 0=bs.getD u 0:=by
   rw[List.getD_eq_getElem?_getD,List.getD_eq_getElem?_getD,List.getElem?_set_ne e]
  rw[this];exact h u hu
theorem set_back {bs:List Int}(h:NegOr bs)(hl:bs.length=40){v:Nat}{s:Int}(hv:v < 40)(hn:¬ 0≤bs.getD v 0):(bs.set v s).set v (-1)=bs:=by
 rw[List.set_set];have h1:bs.getD v 0 = -1:=(h v hv).resolve_left hn;have h2:bs[v]'(by omega) = -1:=by
  rw[List.getD_eq_getElem?_getD,List.getElem?_eq_getElem (by omega)] at h1;exact h1
 rw[← h2,List.set_getElem_self]
theorem acceptP_cases (vars:List (List Int))(bs:List Int)(e s:Int):acceptP vars bs e s=(false,false,bs)∨acceptP vars bs e s=(true,false,bs)∨(e < 0∧¬ 0≤bs.getD (-1 - e).toNat 0∧acceptP vars bs e s=(true,true,bs.set (-1 - e).toNat s)):=by
 unfold acceptP;by_cases h0:0≤e
 ·rw[if_pos h0];cases h:(e == s) with
  | true=>exact .inr (.inl rfl)
  | false=>exact .inl rfl
 ·rw[if_neg h0];by_cases h1:0≤bs.getD (-1 - e).toNat 0
  ·rw[if_pos h1];cases h:(bs.getD (-1 - e).toNat 0 == s) with
   | true=>exact .inr (.inl rfl)
   | false=>exact .inl rfl
  ·rw[if_neg h1];by_cases h2:s ∈ vars.getD (-1 - e).toNat []
   ·rw[if_pos h2];exact .inr (.inr ⟨by omega,h1,rfl⟩)
   ·rw[if_neg h2];exact .inl rfl
theorem setB_back {used:List Bool}{k:Nat}(hk:k < used.length)(h:used.getD k false=false):(used.set k true).set k false=used:=by
 rw[List.set_set];have h2:used[k]=false:=by
  rw[List.getD_eq_getElem?_getD,List.getElem?_eq_getElem hk] at h;exact h
 rw[← h2,List.set_getElem_self]
end Go.Proofs.YtcmbdhopmncmnaaGreatDoor
