/-
  texts NumR9 Cnt9 ParseR9 Split9: parts of the proof; conditions stand with each theorem.
-/
import Derived.Test.YtcfelnhmifkelaaGreatDoorVG9
namespace Go.Proofs.YtcfelnhmifkelaaGreatDoor
open Lib(hid)
open Go.RowKit
set_option maxRecDepth 100000
set_option linter.unusedVariables false
set_option linter.unusedSimpArgs false

def digRun9:List UInt8→List UInt8
 | []=>[]
 | c :: l=>if isDig9 c then c :: digRun9 l else []
def numStep (n:Int)(c:UInt8):Int:=min 10000 (10*n+digOf9 c)
def numV (l:List UInt8):Int:=l.foldl numStep 0
theorem digRun_yes9 {l:List UInt8}{j:Nat}(h:j < l.length)(hd:isDig9 l[j]=true):digRun9 (l.drop j)=l[j] :: digRun9 (l.drop (j+1)):=by
 rw[List.drop_eq_getElem_cons h];simp[digRun9,hd]
theorem digRun_no9 {l:List UInt8}{j:Nat}(h:j < l.length)(hd:isDig9 l[j]=false):digRun9 (l.drop j)=[]:=by
 rw[List.drop_eq_getElem_cons h];simp[digRun9,hd]
def numR (l:List UInt8)(p:Nat):Int × Int:=
 if (digRun9 (l.drop p)).length=0∨3 < (digRun9 (l.drop p)).length∨l.getD p 0=48 then (0,-1) else (numV (digRun9 (l.drop p)),(p:Int)+(digRun9 (l.drop p)).length)
set_option maxHeartbeats 1000000 in
theorem numR_any (s:ByteArray)(p:Nat)(w:World)(hp:p≤s.size)(hs:s.size≤2147483648) :
  Calls Tryz.prog 173 #[.string s,.int .i64 p] w fun e w'=>e=.returned (.tuple #[.int .i64 (numR s.data.toList p).1,.int .i64 (numR s.data.toList p).2])∧w'=w:=by
 obtain⟨l,hl⟩:∃ l,l=s.data.toList:=⟨_,rfl⟩
 have hgb:∀ j (h:j < s.size) (h':j < l.length),l[j]=s[j]:=by subst hl;exact get_byte9 s
 have hlen:l.length=s.size:=by rw[hl];rfl
 rw[← hl];have HG:=hid (And.intro hlen hgb);clear hl hgb hlen;obtain⟨ds,hds⟩:∃ ds,ds=digRun9 (l.drop p):=⟨_,rfl⟩
 have HR:=hid hds;clear hds;go_enter Tryz.func173,Tryz.ntmps173;go_wp2;go_loopw [1,6] (fun i n wr=>∃ (j:Nat) (m:Int) (xs:List UInt8),p≤j∧j≤s.size∧i=.int .i64 j∧n=.int .i64 m∧0≤m∧m≤10000∧wr=w∧xs.length+p=j∧Hid (m=numV xs∧ds=xs ++ digRun9 (l.drop j))) (fun i _ _=>s.size - (intOf i).toNat)
 case atStart=>exact⟨p,0,[],Nat.le_refl _,hp,rfl,rfl,by omega,by omega,rfl,by simp,hid ⟨rfl,HR.out⟩⟩
 case round=>
  obtain⟨j,m,xs,hpj,hjs,rfl,rfl,hm0,hm1,hw,hxj,HT⟩:=hrel;have hw2:=hw.symm;clear hw;subst hw2;by_cases hlt:j < s.size
  ·have hlt':j < l.length:=by rw[HG.out.1];exact hlt
   have hc0:(s[j].toNat:Int)≤255:=by have:=s[j].toNat_lt;omega
   have hdg:isDig9 l[j]=(decide ((48:Int)≤s[j].toNat) && decide ((s[j].toNat:Int)≤57)):=by rw[HG.out.2 j hlt hlt'];rfl
   have hdo:digOf9 l[j]=(s[j].toNat:Int) - 48:=by rw[HG.out.2 j hlt hlt'];rfl
   have HD:=hid (And.intro hdg hdo);clear hdg hdo;by_cases h1:48≤(s[j].toNat:Int)
   ·by_cases h2:(s[j].toNat:Int)≤57
    ·have d1:decide ((48:Int)≤s[j].toNat)=true:=decide_eq_true h1;have d2:decide ((s[j].toNat:Int)≤57)=true:=decide_eq_true h2;have HN:Hid (min 10000 (10*m+((s[j].toNat:Int) - 48))=numV (xs ++ [l[j]])∧ds=(xs ++ [l[j]]) ++ digRun9 (l.drop (j+1))):=hid ⟨by
      unfold numV;rw[List.foldl_append,List.foldl_cons,List.foldl_nil];unfold numStep;rw[HD.out.2,HT.out.1];rfl,by rw[HT.out.2,digRun_yes9 hlt' (by rw[HD.out.1,d1,d2];rfl),List.append_assoc];rfl⟩
     have hb0:0≤min 10000 (10*m+((s[j].toNat:Int) - 48)):=by omega
     have hb1:min 10000 (10*m+((s[j].toNat:Int) - 48))≤10000:=by omega
     go_wp2;go_roundw
     case rel=>exact⟨j+1,_,xs ++ [l[j]],by omega,by omega,by go_num,rfl,hb0,hb1,(by first | rfl | trivial),by simp;omega,HN⟩
     case measure=>simp[intOf];omega
    ·have d1:decide ((48:Int)≤s[j].toNat)=true:=decide_eq_true h1;have d2:decide ((s[j].toNat:Int)≤57)=false:=decide_eq_false h2;have hno:ds=xs:=by rw[HT.out.2,digRun_no9 hlt' (by rw[HD.out.1,d1,d2];rfl),List.append_nil]
     have hmv:m=numV xs:=HT.out.1;have HV:=hid (And.intro hno hmv);clear hno hmv;by_cases k1:xs.length=0
     ·have e1:((j:Int) == (p:Int))=true:=by simp;omega
      have HN:Hid (numR l p=(0,-1)):=hid (by unfold numR;rw[← HR.out,HV.out.1,if_pos (.inl k1)]);have K1:=hid k1;clear k1;go_wp2;go_ret2;rw[HN.out];exact⟨rfl,rfl⟩
     ·have e1:((j:Int) == (p:Int))=false:=by simp;omega
      by_cases k2:3 < xs.length
      ·have e2:decide ((p:Int)+3 < (j:Int))=true:=decide_eq_true (by omega);have HN:Hid (numR l p=(0,-1)):=hid (by unfold numR;rw[← HR.out,HV.out.1,if_pos (.inr (.inl k2))]);go_wp2;go_ret2;rw[HN.out];exact⟨rfl,rfl⟩
      ·have e2:decide ((p:Int)+3 < (j:Int))=false:=decide_eq_false (by omega);have hps:p < s.size:=by omega
       have hpl:p < l.length:=by rw[HG.out.1];exact hps
       have eg:l.getD p 0=s[p]:=by rw[← HG.out.2 p hps hpl];simp[List.getD,hpl]
       by_cases k3:s[p]=48
       ·have e3:((s[p].toNat:Int) == 48)=true:=by rw[k3];rfl
        have HN:Hid (numR l p=(0,-1)):=hid (by unfold numR;rw[← HR.out,HV.out.1,eg,if_pos (.inr (.inr k3))]);clear k3 eg;go_wp2;go_ret2;rw[HN.out];exact⟨rfl,rfl⟩
       ·have e3:((s[p].toNat:Int) == 48)=false:=by
         simp only[beq_eq_false_iff_ne,ne_eq];intro h;exact k3 (UInt8.toNat_inj.1 (by have:(48:UInt8).toNat=48:=rfl;omega))
        have HN:Hid (numR l p=(m,(j:Int))):=hid (by
         unfold numR;rw[← HR.out,HV.out.1,eg,if_neg (fun h=>h.elim k1 fun h=>h.elim k2 k3),HV.out.2,show (p:Int)+xs.length=j from by omega])
        clear k3 eg;go_wp2;go_ret2;rw[HN.out];exact⟨rfl,rfl⟩
   ·have d1:decide ((48:Int)≤s[j].toNat)=false:=decide_eq_false h1;have hno:ds=xs:=by rw[HT.out.2,digRun_no9 hlt' (by rw[HD.out.1,d1];rfl),List.append_nil]
    have hmv:m=numV xs:=HT.out.1;have HV:=hid (And.intro hno hmv);clear hno hmv;by_cases k1:xs.length=0
    ·have e1:((j:Int) == (p:Int))=true:=by simp;omega
     have HN:Hid (numR l p=(0,-1)):=hid (by unfold numR;rw[← HR.out,HV.out.1,if_pos (.inl k1)]);have K1:=hid k1;clear k1;go_wp2;go_ret2;rw[HN.out];exact⟨rfl,rfl⟩
    ·have e1:((j:Int) == (p:Int))=false:=by simp;omega
     by_cases k2:3 < xs.length
     ·have e2:decide ((p:Int)+3 < (j:Int))=true:=decide_eq_true (by omega);have HN:Hid (numR l p=(0,-1)):=hid (by unfold numR;rw[← HR.out,HV.out.1,if_pos (.inr (.inl k2))]);go_wp2;go_ret2;rw[HN.out];exact⟨rfl,rfl⟩
     ·have e2:decide ((p:Int)+3 < (j:Int))=false:=decide_eq_false (by omega);have hps:p < s.size:=by omega
      have hpl:p < l.length:=by rw[HG.out.1];exact hps
      have eg:l.getD p 0=s[p]:=by rw[← HG.out.2 p hps hpl];simp[List.getD,hpl]
      by_cases k3:s[p]=48
      ·have e3:((s[p].toNat:Int) == 48)=true:=by rw[k3];rfl
       have HN:Hid (numR l p=(0,-1)):=hid (by unfold numR;rw[← HR.out,HV.out.1,eg,if_pos (.inr (.inr k3))]);clear k3 eg;go_wp2;go_ret2;rw[HN.out];exact⟨rfl,rfl⟩
      ·have e3:((s[p].toNat:Int) == 48)=false:=by
        simp only[beq_eq_false_iff_ne,ne_eq];intro h;exact k3 (UInt8.toNat_inj.1 (by have:(48:UInt8).toNat=48:=rfl;omega))
       have HN:Hid (numR l p=(m,(j:Int))):=hid (by
        unfold numR;rw[← HR.out,HV.out.1,eg,if_neg (fun h=>h.elim k1 fun h=>h.elim k2 k3),HV.out.2,show (p:Int)+xs.length=j from by omega])
       clear k3 eg;go_wp2;go_ret2;rw[HN.out];exact⟨rfl,rfl⟩
  ·have d0:decide ((j:Int) < (s.size:Int))=false:=decide_eq_false (by omega);have hno:ds=xs:=by rw[HT.out.2,List.drop_of_length_le (by rw[HG.out.1];omega),show digRun9 []=[] from rfl,List.append_nil]
   have hmv:m=numV xs:=HT.out.1;have HV:=hid (And.intro hno hmv);clear hno hmv;by_cases k1:xs.length=0
   ·have e1:((j:Int) == (p:Int))=true:=by simp;omega
    have HN:Hid (numR l p=(0,-1)):=hid (by unfold numR;rw[← HR.out,HV.out.1,if_pos (.inl k1)]);have K1:=hid k1;clear k1;go_wp2;go_ret2;rw[HN.out];exact⟨rfl,rfl⟩
   ·have e1:((j:Int) == (p:Int))=false:=by simp;omega
    by_cases k2:3 < xs.length
    ·have e2:decide ((p:Int)+3 < (j:Int))=true:=decide_eq_true (by omega);have HN:Hid (numR l p=(0,-1)):=hid (by unfold numR;rw[← HR.out,HV.out.1,if_pos (.inr (.inl k2))]);go_wp2;go_ret2;rw[HN.out];exact⟨rfl,rfl⟩
    ·have e2:decide ((p:Int)+3 < (j:Int))=false:=decide_eq_false (by omega);have hps:p < s.size:=by omega
     have hpl:p < l.length:=by rw[HG.out.1];exact hps
     have eg:l.getD p 0=s[p]:=by rw[← HG.out.2 p hps hpl];simp[List.getD,hpl]
     by_cases k3:s[p]=48
     ·have e3:((s[p].toNat:Int) == 48)=true:=by rw[k3];rfl
      have HN:Hid (numR l p=(0,-1)):=hid (by unfold numR;rw[← HR.out,HV.out.1,eg,if_pos (.inr (.inr k3))]);clear k3 eg;go_wp2;go_ret2;rw[HN.out];exact⟨rfl,rfl⟩
     ·have e3:((s[p].toNat:Int) == 48)=false:=by
       simp only[beq_eq_false_iff_ne,ne_eq];intro h;exact k3 (UInt8.toNat_inj.1 (by have:(48:UInt8).toNat=48:=rfl;omega))
      have HN:Hid (numR l p=(m,(j:Int))):=hid (by
       unfold numR;rw[← HR.out,HV.out.1,eg,if_neg (fun h=>h.elim k1 fun h=>h.elim k2 k3),HV.out.2,show (p:Int)+xs.length=j from by omega])
      clear k3 eg;go_wp2;go_ret2;rw[HN.out];exact⟨rfl,rfl⟩

def digAt (l:List UInt8)(p:Int):List Int:=digAsc9 (-1) (l.drop p.toNat)
def endAt (l:List UInt8)(p:Int):Int:=p+(digAt l p).length
def cntR (l:List UInt8):List Int × List Int × Int:=
 if afterL9 l 0 [66] < 0 then
  if afterL9 l (endAt l 0) [47] < 0 then ([],[],-1)
  else (digAt l (afterL9 l (endAt l 0) [47]),digAt l 0,afterL9 l (endAt l (afterL9 l (endAt l 0) [47])) [47])
 else
  if afterL9 l (endAt l (afterL9 l 0 [66])) [47,83] < 0 then ([],[],-1)
  else (digAt l (afterL9 l 0 [66]),digAt l (afterL9 l (endAt l (afterL9 l 0 [66])) [47,83]),afterL9 l (endAt l (afterL9 l (endAt l (afterL9 l 0 [66])) [47,83])) [47,67])
def RetCnt (r:List Int × List Int × Int)(w:World)(e:Ending)(w':World):Prop:=
 ∃ A a B b,e=.returned (.tuple #[.slice A r.1.length a,.slice B r.2.1.length b,.int .i64 r.2.2])∧Ints w' A r.1∧Ints w' B r.2.1∧NewA w.heap.size A∧NewA w.heap.size B∧Below w.heap.size w w'
theorem after_le {l t:List UInt8}{p:Int}(h:¬ afterL9 l p t < 0):0≤afterL9 l p t∧afterL9 l p t≤l.length∧0≤p:=by
 unfold afterL9 at *
 split at h
 ·rename_i hc;rw[if_pos hc];omega
 ·omega
theorem digAsc_le9 (l:List UInt8):∀ last,(digAsc9 last l).length≤l.length:=by
 induction l with
 | nil=>intro last;simp[digAsc9]
 | cons c l ih=>
  intro last;unfold digAsc9
  split
  ·have:=ih (digOf9 c)
   simp;omega
  ·simp
theorem endAt_le {l:List UInt8}{p:Int}(h0:0≤p)(h1:p≤l.length):0≤endAt l p∧endAt l p≤l.length:=by
 unfold endAt digAt;have:=digAsc_le9 (l.drop p.toNat) (-1);rw[List.length_drop] at this;omega
theorem digitsAt_any (s:ByteArray)(p:Int)(w:World)(h0:0≤p)(hp:p≤s.size)(hs:s.size≤2147483648) :
  Calls Tryz.prog 205 #[.string s,.int .i64 p] w (RetIntsN9 (digAt s.data.toList p) (endAt s.data.toList p) w):=by
 have h:=digitsR_any9 s p.toNat w (by omega) hs;have e:((p.toNat:Nat):Int)=p:=by omega
 rw[e] at h;exact h
theorem results_tmp3 {fn:Func}{a b c:Tmp}(h:fn.results=#[.tmp a,.tmp b,.tmp c])(tmps:Array Value)(w:World){x y z:Value}(hx:tmps.getD a undef=x)(hy:tmps.getD b undef=y)(hz:tmps.getD c undef=z) :
  (results fn tmps).run Tryz.prog w=.ok (.tuple #[x,y,z]) w:=by
 subst hx hy hz;simp[results,h,go_sem]
set_option maxHeartbeats 2000000 in
theorem cntR_any (s:ByteArray)(w:World)(hs:s.size≤2147483648) :
  Calls Tryz.prog 172 #[.string s] w (RetCnt (cntR s.data.toList) w):=by
 obtain⟨l,hl⟩:∃ l,l=s.data.toList:=⟨_,rfl⟩
 have hlen:(l.length:Int)=s.size:=by rw[hl];rfl
 have K1:=hid (fun (p:Int) (W:World) (h0:-10≤p) (h1:p≤s.size)=>after_any9 s ⟨#[66]⟩ p W hs (by decide) (by omega) h0);have K2:=hid (fun (p:Int) (W:World) (h0:-10≤p) (h1:p≤s.size)=>after_any9 s ⟨#[47]⟩ p W hs (by decide) (by omega) h0);have K3:=hid (fun (p:Int) (W:World) (h0:-10≤p) (h1:p≤s.size)=>after_any9 s ⟨#[47,83]⟩ p W hs (by decide) (by omega) h0);have K4:=hid (fun (p:Int) (W:World) (h0:-10≤p) (h1:p≤s.size)=>after_any9 s ⟨#[47,67]⟩ p W hs (by decide) (by omega) h0);have KD:=hid (fun (p:Int) (W:World) (h0:0≤p) (h1:p≤s.size)=>digitsAt_any s p W h0 h1 hs);rw[show (ByteArray.mk #[66]).data.toList=[66] from rfl,← hl] at K1;rw[show (ByteArray.mk #[47]).data.toList=[47] from rfl,← hl] at K2;rw[show (ByteArray.mk #[47,83]).data.toList=[47,83] from rfl,← hl] at K3;rw[show (ByteArray.mk #[47,67]).data.toList=[47,67] from rfl,← hl] at K4;rw[← hl] at KD ⊢;clear hl;obtain⟨p1,hp1⟩:∃ p1,afterL9 l 0 [66]=p1:=⟨_,rfl⟩
 by_cases h1:p1 < 0
 ·have d1:decide (p1 < 0)=true:=decide_eq_true h1;obtain⟨ss,hss⟩:∃ x,digAt l 0=x:=⟨_,rfl⟩
  obtain⟨q1,hq1⟩:∃ x,endAt l 0=x:=⟨_,rfl⟩
  obtain⟨b0,b1⟩:=endAt_le (l:=l) (p:=0) (by omega) (by omega);obtain⟨p2,hp2⟩:∃ x,afterL9 l q1 [47]=x:=⟨_,rfl⟩
  rw[hq1] at b0 b1;have C1:=hid (K1.out 0 w (by omega) (by omega));have C2:=hid (fun W=>KD.out 0 W (by omega) (by omega));have C3:=hid (fun W=>K2.out q1 W (by omega) (by omega));rw[hp1] at C1;rw[hss,hq1] at C2;rw[hp2] at C3;by_cases h2:p2 < 0
  ·have d2:decide (p2 < 0)=true:=decide_eq_true h2;have HN:Hid (cntR l=([],[],-1)):=hid (by unfold cntR;rw[hp1,if_pos h1,hq1,hp2,if_pos h2]);clear hp1 hss hq1 hp2;go_enter Tryz.func172,Tryz.ntmps172;go_wp2_with fail;refine C1.out.mono ?_;rintro e w1 ⟨rfl,hw⟩;have hw2:=hw.symm;clear hw;subst hw2;go_wp2_with fail;refine (C2.out _).mono ?_;rintro e w1 ⟨A1,a1,rfl,hi1,hn1,hb1⟩;go_wp2_with fail;refine (C3.out _).mono ?_;rintro e w2 ⟨rfl,hw⟩;have hw2:=hw.symm;clear hw;subst hw2;go_wp2;refine bodyPost_ret (results_tmp3 rfl _ _ rfl rfl rfl) rfl ?_;rw[HN.out];exact⟨none,0,none,0,rfl,Ints.nil,Ints.nil,NewA.none_ _,NewA.none_ _,hb1⟩
  ·have d2:decide (p2 < 0)=false:=decide_eq_false h2;have hpl:=after_le (l:=l) (t:=[47]) (p:=q1) (by rw[hp2];exact h2);rw[hp2] at hpl;obtain⟨bs,hbs⟩:∃ x,digAt l p2=x:=⟨_,rfl⟩
   obtain⟨q2,hq2⟩:∃ x,endAt l p2=x:=⟨_,rfl⟩
   obtain⟨b2,b3⟩:=endAt_le (l:=l) (p:=p2) hpl.1 hpl.2.1;rw[hq2] at b2 b3;have C4:=hid (fun W=>KD.out p2 W hpl.1 (by omega));have C5:=hid (fun W=>K2.out q2 W (by omega) (by omega));rw[hbs,hq2] at C4;have HN:Hid (cntR l=(bs,ss,afterL9 l q2 [47])):=hid (by unfold cntR;rw[hp1,if_pos h1,hq1,hp2,if_neg h2,hbs,hss,hq2]);clear hp1 hss hq1 hp2 hbs hq2;go_enter Tryz.func172,Tryz.ntmps172;go_wp2_with fail;refine C1.out.mono ?_;rintro e w1 ⟨rfl,hw⟩;have hw2:=hw.symm;clear hw;subst hw2;go_wp2_with fail;refine (C2.out _).mono ?_;rintro e w1 ⟨A1,a1,rfl,hi1,hn1,hb1⟩;go_wp2_with fail;refine (C3.out _).mono ?_;rintro e w2 ⟨rfl,hw⟩;have hw2:=hw.symm;clear hw;subst hw2;go_wp2_with fail;refine (C4.out _).mono ?_;rintro e w2 ⟨A2,a2,rfl,hi2,hn2,hb2⟩;go_wp2_with fail;refine (C5.out _).mono ?_;rintro e w3 ⟨rfl,hw⟩;have hw2:=hw.symm;clear hw;subst hw2;go_wp2;refine bodyPost_ret (results_tmp3 rfl _ _ rfl rfl rfl) rfl ?_;rw[HN.out];exact⟨A2,a2,A1,a1,rfl,hi2,hi1.ext hb2,hn2.mono hb1.size,hn1,hb1.trans (hb2.mono hb1.size)⟩
 ·have d1:decide (p1 < 0)=false:=decide_eq_false h1;have hpl1:=after_le (l:=l) (t:=[66]) (p:=0) (by rw[hp1];exact h1);rw[hp1] at hpl1;obtain⟨bs,hbs⟩:∃ x,digAt l p1=x:=⟨_,rfl⟩
  obtain⟨q1,hq1⟩:∃ x,endAt l p1=x:=⟨_,rfl⟩
  obtain⟨b0,b1⟩:=endAt_le (l:=l) (p:=p1) hpl1.1 hpl1.2.1;obtain⟨p2,hp2⟩:∃ x,afterL9 l q1 [47,83]=x:=⟨_,rfl⟩
  rw[hq1] at b0 b1;have C1:=hid (K1.out 0 w (by omega) (by omega));have C2:=hid (fun W=>KD.out p1 W hpl1.1 (by omega));have C3:=hid (fun W=>K3.out q1 W (by omega) (by omega));rw[hp1] at C1;rw[hbs,hq1] at C2;rw[hp2] at C3;by_cases h2:p2 < 0
  ·have d2:decide (p2 < 0)=true:=decide_eq_true h2;have HN:Hid (cntR l=([],[],-1)):=hid (by unfold cntR;rw[hp1,if_neg h1,hq1,hp2,if_pos h2]);clear hp1 hbs hq1 hp2;go_enter Tryz.func172,Tryz.ntmps172;go_wp2_with fail;refine C1.out.mono ?_;rintro e w1 ⟨rfl,hw⟩;have hw2:=hw.symm;clear hw;subst hw2;go_wp2_with fail;refine (C2.out _).mono ?_;rintro e w1 ⟨A1,a1,rfl,hi1,hn1,hb1⟩;go_wp2_with fail;refine (C3.out _).mono ?_;rintro e w2 ⟨rfl,hw⟩;have hw2:=hw.symm;clear hw;subst hw2;go_wp2;refine bodyPost_ret (results_tmp3 rfl _ _ rfl rfl rfl) rfl ?_;rw[HN.out];exact⟨none,0,none,0,rfl,Ints.nil,Ints.nil,NewA.none_ _,NewA.none_ _,hb1⟩
  ·have d2:decide (p2 < 0)=false:=decide_eq_false h2;have hpl:=after_le (l:=l) (t:=[47,83]) (p:=q1) (by rw[hp2];exact h2);rw[hp2] at hpl;obtain⟨ss,hss⟩:∃ x,digAt l p2=x:=⟨_,rfl⟩
   obtain⟨q2,hq2⟩:∃ x,endAt l p2=x:=⟨_,rfl⟩
   obtain⟨b2,b3⟩:=endAt_le (l:=l) (p:=p2) hpl.1 hpl.2.1;rw[hq2] at b2 b3;have C4:=hid (fun W=>KD.out p2 W hpl.1 (by omega));have C5:=hid (fun W=>K4.out q2 W (by omega) (by omega));rw[hss,hq2] at C4;have HN:Hid (cntR l=(bs,ss,afterL9 l q2 [47,67])):=hid (by unfold cntR;rw[hp1,if_neg h1,hq1,hp2,if_neg h2,hbs,hss,hq2]);clear hp1 hss hq1 hp2 hbs hq2;go_enter Tryz.func172,Tryz.ntmps172;go_wp2_with fail;refine C1.out.mono ?_;rintro e w1 ⟨rfl,hw⟩;have hw2:=hw.symm;clear hw;subst hw2;go_wp2_with fail;refine (C2.out _).mono ?_;rintro e w1 ⟨A1,a1,rfl,hi1,hn1,hb1⟩;go_wp2_with fail;refine (C3.out _).mono ?_;rintro e w2 ⟨rfl,hw⟩;have hw2:=hw.symm;clear hw;subst hw2;go_wp2_with fail;refine (C4.out _).mono ?_;rintro e w2 ⟨A2,a2,rfl,hi2,hn2,hb2⟩;go_wp2_with fail;refine (C5.out _).mono ?_;rintro e w3 ⟨rfl,hw⟩;have hw2:=hw.symm;clear hw;subst hw2;go_wp2;refine bodyPost_ret (results_tmp3 rfl _ _ rfl rfl rfl) rfl ?_;rw[HN.out];exact⟨A1,a1,A2,a2,rfl,hi1.ext hb2,hi2,hn1,hn2.mono hb1.size,hb1.trans (hb2.mono hb1.size)⟩

def RetTot9 (r:TotL × Int)(w:World)(e:Ending)(w':World):Prop:=
 ∃ A a B b C c,e=.returned (.tuple #[totV A a B b C c r.1,.int .i64 r.2])∧TotR w' A B C r.1∧Below w.heap.size w w'
theorem TotR.set49 {w:World}{A B C:Option Addr}{t:TotL}{b:Nat}(h:TotR w A B C t)(ha:NewA (b+1) A) (hb:NewA (b+1) B) (hc:NewA (b+1) C) (v0 v1 v2 v3:Value) :
  TotR ((((w.setCell ⟨b,0,none⟩ v0).setCell ⟨b,1,none⟩ v1).setCell ⟨b,2,none⟩ v2).setCell ⟨b,3,none⟩ v3) A B C t:=
 ⟨(((h.hood.set_new ha (by simp) _).set_new ha (by simp) _).set_new ha (by simp) _).set_new ha (by simp) _,
  (((h.birth.set_new hb (by simp) _).set_new hb (by simp) _).set_new hb (by simp) _).set_new hb (by simp) _,
  (((h.survive.set_new hc (by simp) _).set_new hc (by simp) _).set_new hc (by simp) _).set_new hc (by simp) _⟩
def fin9 (b s:List Int)(n:Int)(h:List (Int × Int)):TotL × Int:=
 if 3≤n∧n≤8∧fitsL b h.length=true∧fitsL s h.length=true then (⟨h,n,b,s⟩,0) else (zeroT,5)
def tail9 (b s:List Int)(n:Int)(y:List UInt8):TotL × Int:=
 if y=[] then fin9 b s n (mooreL 1) else if y=[86] then fin9 b s n (neumL 1) else if y=[72] then fin9 b s n hexL else (zeroT,15)
def rparseL9 (l:List UInt8):TotL × Int:=
 if (cntR l).2.2 < 0 then (zeroT,15)
 else if (numR l (cntR l).2.2.toNat).2 < 0 then (zeroT,15)
 else tail9 (cntR l).1 (cntR l).2.1 (numR l (cntR l).2.2.toNat).1 (l.drop (numR l (cntR l).2.2.toNat).2.toNat)
theorem after_le2 (l t:List UInt8)(p:Int):afterL9 l p t≤l.length:=by
 by_cases h:afterL9 l p t < 0
 ·omega
 ·exact (after_le h).2.1
theorem cnt_le (l:List UInt8):(cntR l).2.2≤l.length:=by
 unfold cntR
 split
 ·split
  ·show (-1:Int)≤_;omega
  ·exact after_le2 _ _ _
 ·split
  ·show (-1:Int)≤_;omega
  ·exact after_le2 _ _ _
theorem digRun_le9:∀ l:List UInt8,(digRun9 l).length≤l.length
 | []=>Nat.le_refl _
 | c :: l=>by
  unfold digRun9
  split
  ·have:=digRun_le9 l
   simp;exact this
  ·simp
theorem num_le (l:List UInt8){q:Nat}(h:q≤l.length):(numR l q).2≤l.length:=by
 unfold numR
 split
 ·show (-1:Int)≤_;omega
 ·have:=digRun_le9 (l.drop q);rw[List.length_drop] at this;show (q:Int)+(digRun9 (l.drop q)).length≤_;omega
set_option maxHeartbeats 4000000 in
theorem rparse_any9 (s:ByteArray)(w:World)(hs:s.size≤2147483648) :
  Calls Tryz.prog 127 #[.string s] w (RetTot9 (rparseL9 s.data.toList) w):=by
 have hO:=below_new w (.cells #[.slice none 0 0,.int .i64 0,.slice none 0 0,.slice none 0 0] 144);have br0:Blk (w.alloc (.cells #[.slice none 0 0,.int .i64 0,.slice none 0 0,.slice none 0 0] 144)) w.heap.size 144 #[.slice none 0 0,.int .i64 0,.slice none 0 0,.slice none 0 0]:=Blk.new _ _ _;have C1:=hid (cntR_any s (w.alloc (.cells #[.slice none 0 0,.int .i64 0,.slice none 0 0,.slice none 0 0] 144)) hs);have KN:=hid (fun (p:Nat) (W:World) (hp:p≤s.size)=>numR_any s p W hp hs);have hlen:s.data.toList.length=s.size:=(Lib.size_eq s).symm;obtain⟨l,hl⟩:∃ l,s.data.toList=l:=⟨_,rfl⟩
 rw[hl] at C1 KN hlen ⊢;obtain⟨bs,ss,q,hq⟩:∃ bs ss q,cntR l=(bs,ss,q):=⟨_,_,_,rfl⟩
 rw[hq] at C1;have HB:=hid (And.intro hO br0);have HL:=hid (And.intro hl hlen);clear hO br0 hl hlen;by_cases h1:q < 0
 ·have d1:decide (q < 0)=true:=decide_eq_true h1;have HN:Hid (rparseL9 l=(zeroT,15)):=hid (by unfold rparseL9;rw[hq,if_pos h1]);clear hq;go_enter Tryz.func127,Tryz.ntmps127;go_wp2_with fail;refine C1.out.mono ?_;rintro e w1 ⟨A1,a1,B1,b1,rfl,hi1,hi2,hn1,hn2,hb⟩;have br:=HB.out.2.below hb HB.out.2.lt;have HB2:=hid (HB.out.1.trans (hb.mono HB.out.1.size));have r0:=br.cell_ 0 _ rfl;have r1:=br.cell_ 1 _ rfl;have r2:=br.cell_ 2 _ rfl;have r3:=br.cell_ 3 _ rfl;have g0:=br.frozen 0;have g1:=br.frozen 1;have g2:=br.frozen 2;have g3:=br.frozen 3;clear br hb hi1 hi2 hn1 hn2;go_wp2;refine bodyPost_ret (v:=.tuple #[.agg #[.slice none 0 0,.int .i64 0,.slice none 0 0,.slice none 0 0],.int .i64 15]) (by simp[results,Tryz.results127,go_sem,r0,r1,r2,r3]) rfl ?_;rw[HN.out];exact⟨none,0,none,0,none,0,rfl,TotR.zero _,below_set4 HB2.out (Nat.le_refl _) _ _ _ _⟩
 ·have d1:decide (q < 0)=false:=decide_eq_false h1;have hqs:q≤s.size:=by have:=cnt_le l;rw[hq,HL.out.2] at this;exact this
  obtain⟨n,k,hk⟩:∃ n k,numR l q.toNat=(n,k):=⟨_,_,rfl⟩
  have C2:=hid (fun W=>KN.out q.toNat W (by omega));have eq:((q.toNat:Nat):Int)=q:=by omega
  rw[hk,eq] at C2;by_cases h2:k < 0
  ·have d2:decide (k < 0)=true:=decide_eq_true h2;have HN:Hid (rparseL9 l=(zeroT,15)):=hid (by unfold rparseL9;rw[hq,if_neg h1,hk,if_pos h2]);clear hq hk eq;go_enter Tryz.func127,Tryz.ntmps127;go_wp2_with fail;refine C1.out.mono ?_;rintro e w1 ⟨A1,a1,B1,b1,rfl,hi1,hi2,hn1,hn2,hb⟩;go_wp2_with fail;refine (C2.out _).mono ?_;rintro e w2 ⟨rfl,hw⟩;have hw2:=hw.symm;clear hw;subst hw2;have br:=HB.out.2.below hb HB.out.2.lt;have HB2:=hid (HB.out.1.trans (hb.mono HB.out.1.size));have r0:=br.cell_ 0 _ rfl;have r1:=br.cell_ 1 _ rfl;have r2:=br.cell_ 2 _ rfl;have r3:=br.cell_ 3 _ rfl;have g0:=br.frozen 0;have g1:=br.frozen 1;have g2:=br.frozen 2;have g3:=br.frozen 3;clear br hb hi1 hi2 hn1 hn2;go_wp2;refine bodyPost_ret (v:=.tuple #[.agg #[.slice none 0 0,.int .i64 0,.slice none 0 0,.slice none 0 0],.int .i64 15]) (by simp[results,Tryz.results127,go_sem,r0,r1,r2,r3]) rfl ?_;rw[HN.out];exact⟨none,0,none,0,none,0,rfl,TotR.zero _,below_set4 HB2.out (Nat.le_refl _) _ _ _ _⟩
  ·have d2:decide (k < 0)=false:=decide_eq_false h2;have hks:k≤s.size:=by have:=num_le l (q:=q.toNat) (by rw[HL.out.2];omega);rw[hk,HL.out.2] at this;exact this
   have HR:Hid (rparseL9 l=tail9 bs ss n (l.drop k.toNat)):=hid (by unfold rparseL9;rw[hq,if_neg h1,hk,if_neg h2]);clear hq hk eq;have ey:(s.extract k.toNat s.size).toList=l.drop k.toNat:=by
    rw[Lib.extract_toList,HL.out.1,List.take_of_length_le];rw[List.length_drop,HL.out.2];omega
   by_cases EY:l.drop k.toNat=[]
   ·have y0:(s.extract k.toNat s.size).toList.isEmpty=true:=by rw[ey,EY];rfl
    clear ey;have HT:Hid (tail9 bs ss n (l.drop k.toNat)=fin9 bs ss n (mooreL 1)):=hid (by unfold tail9;rw[if_pos EY]);clear EY;by_cases n1:n < 3
    ·have dn:decide (n < 3)=true:=decide_eq_true n1;have HN:Hid (rparseL9 l=(zeroT,5)):=hid (by rw[HR.out,HT.out];unfold fin9;rw[if_neg (by omega)]);go_enter Tryz.func127,Tryz.ntmps127;go_wp2_with fail;refine C1.out.mono ?_;rintro e w1 ⟨A1,a1,B1,b1,rfl,hi1,hi2,hn1,hn2,hb⟩;go_wp2_with fail;refine (C2.out _).mono ?_;rintro e w2 ⟨rfl,hw⟩;have hw2:=hw.symm;clear hw;subst hw2;have HM:=hid (rmoore_one w1);go_wp2_with fail;refine HM.out.mono ?_;rintro e w2 ⟨A3,a3,rfl,hp,hn3,hb3⟩;have hb0:=HB.out.1.trans (hb.mono HB.out.1.size);have hbb:=hb0.trans (hb3.mono hb0.size);have br:=(HB.out.2.below hb HB.out.2.lt).below hb3 (HB.out.2.below hb HB.out.2.lt).lt;have hj1:=hi1.ext hb3;have hj2:=hi2.ext hb3;have hm1:NewA (w.heap.size+1) A1:=by simpa using hn1
     have hm2:NewA (w.heap.size+1) B1:=by simpa using hn2
     have hm3:NewA (w.heap.size+1) A3:=hn3.mono (by have:=hb.size;simp at this;exact this);clear HM hi1 hi2 hn1 hn2 hn3 hb hb3 hb0;have r0:=br.cell_ 0 _ rfl;have r1:=br.cell_ 1 _ rfl;have r2:=br.cell_ 2 _ rfl;have r3:=br.cell_ 3 _ rfl;have g0:=br.frozen 0;have g1:=br.frozen 1;have g2:=br.frozen 2;have g3:=br.frozen 3;have HF:=hid (And.intro hbb (And.intro hp (And.intro hj1 (And.intro hj2 (And.intro hm1 (And.intro hm2 hm3))))));clear br hbb hp hj1 hj2 hm1 hm2 hm3;go_wp2;refine bodyPost_ret (v:=.tuple #[.agg #[.slice none 0 0,.int .i64 0,.slice none 0 0,.slice none 0 0],.int .i64 5]) (by simp[results,Tryz.results127,go_sem,r0,r1,r2,r3]) rfl ?_;rw[HN.out];exact⟨none,0,none,0,none,0,rfl,TotR.zero _,below_set4 HF.out.1 (Nat.le_refl _) _ _ _ _⟩
    have dn:decide (n < 3)=false:=decide_eq_false n1;by_cases n2:8 < n
    ·have dn2:decide (8 < n)=true:=decide_eq_true n2;have HN:Hid (rparseL9 l=(zeroT,5)):=hid (by rw[HR.out,HT.out];unfold fin9;rw[if_neg (by omega)]);go_enter Tryz.func127,Tryz.ntmps127;go_wp2_with fail;refine C1.out.mono ?_;rintro e w1 ⟨A1,a1,B1,b1,rfl,hi1,hi2,hn1,hn2,hb⟩;go_wp2_with fail;refine (C2.out _).mono ?_;rintro e w2 ⟨rfl,hw⟩;have hw2:=hw.symm;clear hw;subst hw2;have HM:=hid (rmoore_one w1);go_wp2_with fail;refine HM.out.mono ?_;rintro e w2 ⟨A3,a3,rfl,hp,hn3,hb3⟩;have hb0:=HB.out.1.trans (hb.mono HB.out.1.size);have hbb:=hb0.trans (hb3.mono hb0.size);have br:=(HB.out.2.below hb HB.out.2.lt).below hb3 (HB.out.2.below hb HB.out.2.lt).lt;have hj1:=hi1.ext hb3;have hj2:=hi2.ext hb3;have hm1:NewA (w.heap.size+1) A1:=by simpa using hn1
     have hm2:NewA (w.heap.size+1) B1:=by simpa using hn2
     have hm3:NewA (w.heap.size+1) A3:=hn3.mono (by have:=hb.size;simp at this;exact this);clear HM hi1 hi2 hn1 hn2 hn3 hb hb3 hb0;have r0:=br.cell_ 0 _ rfl;have r1:=br.cell_ 1 _ rfl;have r2:=br.cell_ 2 _ rfl;have r3:=br.cell_ 3 _ rfl;have g0:=br.frozen 0;have g1:=br.frozen 1;have g2:=br.frozen 2;have g3:=br.frozen 3;have HF:=hid (And.intro hbb (And.intro hp (And.intro hj1 (And.intro hj2 (And.intro hm1 (And.intro hm2 hm3))))));clear br hbb hp hj1 hj2 hm1 hm2 hm3;go_wp2;refine bodyPost_ret (v:=.tuple #[.agg #[.slice none 0 0,.int .i64 0,.slice none 0 0,.slice none 0 0],.int .i64 5]) (by simp[results,Tryz.results127,go_sem,r0,r1,r2,r3]) rfl ?_;rw[HN.out];exact⟨none,0,none,0,none,0,rfl,TotR.zero _,below_set4 HF.out.1 (Nat.le_refl _) _ _ _ _⟩
    have dn2:decide (8 < n)=false:=decide_eq_false n2;cases f1:fitsL bs (mooreL 1).length
    ·have HN:Hid (rparseL9 l=(zeroT,5)):=hid (by rw[HR.out,HT.out];unfold fin9;rw[if_neg (by rw[f1];simp)]);have F1:=hid f1;clear f1;go_enter Tryz.func127,Tryz.ntmps127;go_wp2_with fail;refine C1.out.mono ?_;rintro e w1 ⟨A1,a1,B1,b1,rfl,hi1,hi2,hn1,hn2,hb⟩;go_wp2_with fail;refine (C2.out _).mono ?_;rintro e w2 ⟨rfl,hw⟩;have hw2:=hw.symm;clear hw;subst hw2;have HM:=hid (rmoore_one w1);go_wp2_with fail;refine HM.out.mono ?_;rintro e w2 ⟨A3,a3,rfl,hp,hn3,hb3⟩;have hb0:=HB.out.1.trans (hb.mono HB.out.1.size);have hbb:=hb0.trans (hb3.mono hb0.size);have br:=(HB.out.2.below hb HB.out.2.lt).below hb3 (HB.out.2.below hb HB.out.2.lt).lt;have hj1:=hi1.ext hb3;have hj2:=hi2.ext hb3;have hm1:NewA (w.heap.size+1) A1:=by simpa using hn1
     have hm2:NewA (w.heap.size+1) B1:=by simpa using hn2
     have hm3:NewA (w.heap.size+1) A3:=hn3.mono (by have:=hb.size;simp at this;exact this);clear HM hi1 hi2 hn1 hn2 hn3 hb hb3 hb0;have r0:=br.cell_ 0 _ rfl;have r1:=br.cell_ 1 _ rfl;have r2:=br.cell_ 2 _ rfl;have r3:=br.cell_ 3 _ rfl;have g0:=br.frozen 0;have g1:=br.frozen 1;have g2:=br.frozen 2;have g3:=br.frozen 3;have HF:=hid (And.intro hbb (And.intro hp (And.intro hj1 (And.intro hj2 (And.intro hm1 (And.intro hm2 hm3))))));clear br hbb hp hj1 hj2 hm1 hm2 hm3;have HC:=hid (fits_any A1 A3 bs a1 a3 (mooreL 1) _ HF.out.2.2.1 (by decide));rw[F1.out] at HC;go_wp2_with fail;refine HC.out.mono ?_;rintro e w9 ⟨rfl,hw⟩;have hw2:=hw.symm;clear hw;subst hw2;clear HC;go_wp2;refine bodyPost_ret (v:=.tuple #[.agg #[.slice none 0 0,.int .i64 0,.slice none 0 0,.slice none 0 0],.int .i64 5]) (by simp[results,Tryz.results127,go_sem,r0,r1,r2,r3]) rfl ?_;rw[HN.out];exact⟨none,0,none,0,none,0,rfl,TotR.zero _,below_set4 HF.out.1 (Nat.le_refl _) _ _ _ _⟩
    have F1:=hid f1;clear f1;cases f2:fitsL ss (mooreL 1).length
    ·have HN:Hid (rparseL9 l=(zeroT,5)):=hid (by rw[HR.out,HT.out];unfold fin9;rw[if_neg (by rw[f2];simp)]);have F2:=hid f2;clear f2;go_enter Tryz.func127,Tryz.ntmps127;go_wp2_with fail;refine C1.out.mono ?_;rintro e w1 ⟨A1,a1,B1,b1,rfl,hi1,hi2,hn1,hn2,hb⟩;go_wp2_with fail;refine (C2.out _).mono ?_;rintro e w2 ⟨rfl,hw⟩;have hw2:=hw.symm;clear hw;subst hw2;have HM:=hid (rmoore_one w1);go_wp2_with fail;refine HM.out.mono ?_;rintro e w2 ⟨A3,a3,rfl,hp,hn3,hb3⟩;have hb0:=HB.out.1.trans (hb.mono HB.out.1.size);have hbb:=hb0.trans (hb3.mono hb0.size);have br:=(HB.out.2.below hb HB.out.2.lt).below hb3 (HB.out.2.below hb HB.out.2.lt).lt;have hj1:=hi1.ext hb3;have hj2:=hi2.ext hb3;have hm1:NewA (w.heap.size+1) A1:=by simpa using hn1
     have hm2:NewA (w.heap.size+1) B1:=by simpa using hn2
     have hm3:NewA (w.heap.size+1) A3:=hn3.mono (by have:=hb.size;simp at this;exact this);clear HM hi1 hi2 hn1 hn2 hn3 hb hb3 hb0;have r0:=br.cell_ 0 _ rfl;have r1:=br.cell_ 1 _ rfl;have r2:=br.cell_ 2 _ rfl;have r3:=br.cell_ 3 _ rfl;have g0:=br.frozen 0;have g1:=br.frozen 1;have g2:=br.frozen 2;have g3:=br.frozen 3;have HF:=hid (And.intro hbb (And.intro hp (And.intro hj1 (And.intro hj2 (And.intro hm1 (And.intro hm2 hm3))))));clear br hbb hp hj1 hj2 hm1 hm2 hm3;have HC:=hid (fits_any A1 A3 bs a1 a3 (mooreL 1) _ HF.out.2.2.1 (by decide));rw[F1.out] at HC;go_wp2_with fail;refine HC.out.mono ?_;rintro e w9 ⟨rfl,hw⟩;have hw2:=hw.symm;clear hw;subst hw2;clear HC;have HC:=hid (fits_any B1 A3 ss b1 a3 (mooreL 1) _ HF.out.2.2.2.1 (by decide));rw[F2.out] at HC;go_wp2_with fail;refine HC.out.mono ?_;rintro e w9 ⟨rfl,hw⟩;have hw2:=hw.symm;clear hw;subst hw2;clear HC;go_wp2;refine bodyPost_ret (v:=.tuple #[.agg #[.slice none 0 0,.int .i64 0,.slice none 0 0,.slice none 0 0],.int .i64 5]) (by simp[results,Tryz.results127,go_sem,r0,r1,r2,r3]) rfl ?_;rw[HN.out];exact⟨none,0,none,0,none,0,rfl,TotR.zero _,below_set4 HF.out.1 (Nat.le_refl _) _ _ _ _⟩
    ·have HN:Hid (rparseL9 l=(⟨mooreL 1,n,bs,ss⟩,0)):=hid (by rw[HR.out,HT.out];unfold fin9;rw[if_pos ⟨by omega,by omega,F1.out,f2⟩]);have F2:=hid f2;clear f2;go_enter Tryz.func127,Tryz.ntmps127;go_wp2_with fail;refine C1.out.mono ?_;rintro e w1 ⟨A1,a1,B1,b1,rfl,hi1,hi2,hn1,hn2,hb⟩;go_wp2_with fail;refine (C2.out _).mono ?_;rintro e w2 ⟨rfl,hw⟩;have hw2:=hw.symm;clear hw;subst hw2;have HM:=hid (rmoore_one w1);go_wp2_with fail;refine HM.out.mono ?_;rintro e w2 ⟨A3,a3,rfl,hp,hn3,hb3⟩;have hb0:=HB.out.1.trans (hb.mono HB.out.1.size);have hbb:=hb0.trans (hb3.mono hb0.size);have br:=(HB.out.2.below hb HB.out.2.lt).below hb3 (HB.out.2.below hb HB.out.2.lt).lt;have hj1:=hi1.ext hb3;have hj2:=hi2.ext hb3;have hm1:NewA (w.heap.size+1) A1:=by simpa using hn1
     have hm2:NewA (w.heap.size+1) B1:=by simpa using hn2
     have hm3:NewA (w.heap.size+1) A3:=hn3.mono (by have:=hb.size;simp at this;exact this);clear HM hi1 hi2 hn1 hn2 hn3 hb hb3 hb0;have r0:=br.cell_ 0 _ rfl;have r1:=br.cell_ 1 _ rfl;have r2:=br.cell_ 2 _ rfl;have r3:=br.cell_ 3 _ rfl;have g0:=br.frozen 0;have g1:=br.frozen 1;have g2:=br.frozen 2;have g3:=br.frozen 3;have HF:=hid (And.intro hbb (And.intro hp (And.intro hj1 (And.intro hj2 (And.intro hm1 (And.intro hm2 hm3))))));clear br hbb hp hj1 hj2 hm1 hm2 hm3;have HC:=hid (fits_any A1 A3 bs a1 a3 (mooreL 1) _ HF.out.2.2.1 (by decide));rw[F1.out] at HC;go_wp2_with fail;refine HC.out.mono ?_;rintro e w9 ⟨rfl,hw⟩;have hw2:=hw.symm;clear hw;subst hw2;clear HC;have HC:=hid (fits_any B1 A3 ss b1 a3 (mooreL 1) _ HF.out.2.2.2.1 (by decide));rw[F2.out] at HC;go_wp2_with fail;refine HC.out.mono ?_;rintro e w9 ⟨rfl,hw⟩;have hw2:=hw.symm;clear hw;subst hw2;clear HC;go_wp2;refine bodyPost_ret (v:=.tuple #[.agg #[.slice A3 (mooreL 1).length a3,.int .i64 n,.slice A1 bs.length a1,.slice B1 ss.length b1],.int .i64 0]) (by simp[results,Tryz.results127,go_sem,r0,r1,r2,r3]) rfl ?_;rw[HN.out];exact⟨A3,a3,A1,a1,B1,b1,rfl,(TotR.mk HF.out.2.1 HF.out.2.2.1 HF.out.2.2.2.1:TotR _ A3 A1 B1 ⟨mooreL 1,n,bs,ss⟩).set49 HF.out.2.2.2.2.2.2 HF.out.2.2.2.2.1 HF.out.2.2.2.2.2.1 _ _ _ _,below_set4 HF.out.1 (Nat.le_refl _) _ _ _ _⟩
   have y0:(s.extract k.toNat s.size).toList.isEmpty=false:=by rw[ey];simpa using EY
   have EY0:=hid EY;clear EY;by_cases EY:l.drop k.toNat=[86]
   ·have y1:((s.extract k.toNat s.size).toList == [86])=true:=by rw[ey,EY];rfl
    clear ey;have HT:Hid (tail9 bs ss n (l.drop k.toNat)=fin9 bs ss n (neumL 1)):=hid (by unfold tail9;rw[if_neg (by rw[EY];simp),if_pos EY]);clear EY;by_cases n1:n < 3
    ·have dn:decide (n < 3)=true:=decide_eq_true n1;have HN:Hid (rparseL9 l=(zeroT,5)):=hid (by rw[HR.out,HT.out];unfold fin9;rw[if_neg (by omega)]);go_enter Tryz.func127,Tryz.ntmps127;go_wp2_with fail;refine C1.out.mono ?_;rintro e w1 ⟨A1,a1,B1,b1,rfl,hi1,hi2,hn1,hn2,hb⟩;go_wp2_with fail;refine (C2.out _).mono ?_;rintro e w2 ⟨rfl,hw⟩;have hw2:=hw.symm;clear hw;subst hw2;have HM:=hid (rmoore_one w1);go_wp2_with fail;refine HM.out.mono ?_;rintro e w2 ⟨A3,a3,rfl,hp,hn3,hb3⟩;have hb0:=HB.out.1.trans (hb.mono HB.out.1.size);have hbb:=hb0.trans (hb3.mono hb0.size);have br:=(HB.out.2.below hb HB.out.2.lt).below hb3 (HB.out.2.below hb HB.out.2.lt).lt;have hj1:=hi1.ext hb3;have hj2:=hi2.ext hb3;have hm1:NewA (w.heap.size+1) A1:=by simpa using hn1
     have hm2:NewA (w.heap.size+1) B1:=by simpa using hn2
     have hm3:NewA (w.heap.size+1) A3:=hn3.mono (by have:=hb.size;simp at this;exact this);clear HM hi1 hi2 hn1 hn2 hn3 hb hb3 hb0;have HM:=hid (rneum_one w2);go_wp2_with fail;refine HM.out.mono ?_;rintro e w3 ⟨A4,a4,rfl,hp4,hn4,hb4⟩;have hbb2:=hbb.trans (hb4.mono hbb.size);have br2:=br.below hb4 br.lt;have hj12:=hj1.ext hb4;have hj22:=hj2.ext hb4;have hm4:NewA (w.heap.size+1) A4:=hn4.mono (by have:=br.lt;omega);clear HM br hj1 hj2 hn4 hb4 hbb hp hm3;have br:=br2;have hj1:=hj12;have hj2:=hj22;have hbb:=hbb2;have hp:=hp4;have hm3:=hm4;clear br2 hj12 hj22 hbb2 hp4 hm4;have r0:=br.cell_ 0 _ rfl;have r1:=br.cell_ 1 _ rfl;have r2:=br.cell_ 2 _ rfl;have r3:=br.cell_ 3 _ rfl;have g0:=br.frozen 0;have g1:=br.frozen 1;have g2:=br.frozen 2;have g3:=br.frozen 3;have HF:=hid (And.intro hbb (And.intro hp (And.intro hj1 (And.intro hj2 (And.intro hm1 (And.intro hm2 hm3))))));clear br hbb hp hj1 hj2 hm1 hm2 hm3;go_wp2;refine bodyPost_ret (v:=.tuple #[.agg #[.slice none 0 0,.int .i64 0,.slice none 0 0,.slice none 0 0],.int .i64 5]) (by simp[results,Tryz.results127,go_sem,r0,r1,r2,r3]) rfl ?_;rw[HN.out];exact⟨none,0,none,0,none,0,rfl,TotR.zero _,below_set4 HF.out.1 (Nat.le_refl _) _ _ _ _⟩
    have dn:decide (n < 3)=false:=decide_eq_false n1;by_cases n2:8 < n
    ·have dn2:decide (8 < n)=true:=decide_eq_true n2;have HN:Hid (rparseL9 l=(zeroT,5)):=hid (by rw[HR.out,HT.out];unfold fin9;rw[if_neg (by omega)]);go_enter Tryz.func127,Tryz.ntmps127;go_wp2_with fail;refine C1.out.mono ?_;rintro e w1 ⟨A1,a1,B1,b1,rfl,hi1,hi2,hn1,hn2,hb⟩;go_wp2_with fail;refine (C2.out _).mono ?_;rintro e w2 ⟨rfl,hw⟩;have hw2:=hw.symm;clear hw;subst hw2;have HM:=hid (rmoore_one w1);go_wp2_with fail;refine HM.out.mono ?_;rintro e w2 ⟨A3,a3,rfl,hp,hn3,hb3⟩;have hb0:=HB.out.1.trans (hb.mono HB.out.1.size);have hbb:=hb0.trans (hb3.mono hb0.size);have br:=(HB.out.2.below hb HB.out.2.lt).below hb3 (HB.out.2.below hb HB.out.2.lt).lt;have hj1:=hi1.ext hb3;have hj2:=hi2.ext hb3;have hm1:NewA (w.heap.size+1) A1:=by simpa using hn1
     have hm2:NewA (w.heap.size+1) B1:=by simpa using hn2
     have hm3:NewA (w.heap.size+1) A3:=hn3.mono (by have:=hb.size;simp at this;exact this);clear HM hi1 hi2 hn1 hn2 hn3 hb hb3 hb0;have HM:=hid (rneum_one w2);go_wp2_with fail;refine HM.out.mono ?_;rintro e w3 ⟨A4,a4,rfl,hp4,hn4,hb4⟩;have hbb2:=hbb.trans (hb4.mono hbb.size);have br2:=br.below hb4 br.lt;have hj12:=hj1.ext hb4;have hj22:=hj2.ext hb4;have hm4:NewA (w.heap.size+1) A4:=hn4.mono (by have:=br.lt;omega);clear HM br hj1 hj2 hn4 hb4 hbb hp hm3;have br:=br2;have hj1:=hj12;have hj2:=hj22;have hbb:=hbb2;have hp:=hp4;have hm3:=hm4;clear br2 hj12 hj22 hbb2 hp4 hm4;have r0:=br.cell_ 0 _ rfl;have r1:=br.cell_ 1 _ rfl;have r2:=br.cell_ 2 _ rfl;have r3:=br.cell_ 3 _ rfl;have g0:=br.frozen 0;have g1:=br.frozen 1;have g2:=br.frozen 2;have g3:=br.frozen 3;have HF:=hid (And.intro hbb (And.intro hp (And.intro hj1 (And.intro hj2 (And.intro hm1 (And.intro hm2 hm3))))));clear br hbb hp hj1 hj2 hm1 hm2 hm3;go_wp2;refine bodyPost_ret (v:=.tuple #[.agg #[.slice none 0 0,.int .i64 0,.slice none 0 0,.slice none 0 0],.int .i64 5]) (by simp[results,Tryz.results127,go_sem,r0,r1,r2,r3]) rfl ?_;rw[HN.out];exact⟨none,0,none,0,none,0,rfl,TotR.zero _,below_set4 HF.out.1 (Nat.le_refl _) _ _ _ _⟩
    have dn2:decide (8 < n)=false:=decide_eq_false n2;cases f1:fitsL bs (neumL 1).length
    ·have HN:Hid (rparseL9 l=(zeroT,5)):=hid (by rw[HR.out,HT.out];unfold fin9;rw[if_neg (by rw[f1];simp)]);have F1:=hid f1;clear f1;go_enter Tryz.func127,Tryz.ntmps127;go_wp2_with fail;refine C1.out.mono ?_;rintro e w1 ⟨A1,a1,B1,b1,rfl,hi1,hi2,hn1,hn2,hb⟩;go_wp2_with fail;refine (C2.out _).mono ?_;rintro e w2 ⟨rfl,hw⟩;have hw2:=hw.symm;clear hw;subst hw2;have HM:=hid (rmoore_one w1);go_wp2_with fail;refine HM.out.mono ?_;rintro e w2 ⟨A3,a3,rfl,hp,hn3,hb3⟩;have hb0:=HB.out.1.trans (hb.mono HB.out.1.size);have hbb:=hb0.trans (hb3.mono hb0.size);have br:=(HB.out.2.below hb HB.out.2.lt).below hb3 (HB.out.2.below hb HB.out.2.lt).lt;have hj1:=hi1.ext hb3;have hj2:=hi2.ext hb3;have hm1:NewA (w.heap.size+1) A1:=by simpa using hn1
     have hm2:NewA (w.heap.size+1) B1:=by simpa using hn2
     have hm3:NewA (w.heap.size+1) A3:=hn3.mono (by have:=hb.size;simp at this;exact this);clear HM hi1 hi2 hn1 hn2 hn3 hb hb3 hb0;have HM:=hid (rneum_one w2);go_wp2_with fail;refine HM.out.mono ?_;rintro e w3 ⟨A4,a4,rfl,hp4,hn4,hb4⟩;have hbb2:=hbb.trans (hb4.mono hbb.size);have br2:=br.below hb4 br.lt;have hj12:=hj1.ext hb4;have hj22:=hj2.ext hb4;have hm4:NewA (w.heap.size+1) A4:=hn4.mono (by have:=br.lt;omega);clear HM br hj1 hj2 hn4 hb4 hbb hp hm3;have br:=br2;have hj1:=hj12;have hj2:=hj22;have hbb:=hbb2;have hp:=hp4;have hm3:=hm4;clear br2 hj12 hj22 hbb2 hp4 hm4;have r0:=br.cell_ 0 _ rfl;have r1:=br.cell_ 1 _ rfl;have r2:=br.cell_ 2 _ rfl;have r3:=br.cell_ 3 _ rfl;have g0:=br.frozen 0;have g1:=br.frozen 1;have g2:=br.frozen 2;have g3:=br.frozen 3;have HF:=hid (And.intro hbb (And.intro hp (And.intro hj1 (And.intro hj2 (And.intro hm1 (And.intro hm2 hm3))))));clear br hbb hp hj1 hj2 hm1 hm2 hm3;have HC:=hid (fits_any A1 A4 bs a1 a4 (neumL 1) _ HF.out.2.2.1 (by decide));rw[F1.out] at HC;go_wp2_with fail;refine HC.out.mono ?_;rintro e w9 ⟨rfl,hw⟩;have hw2:=hw.symm;clear hw;subst hw2;clear HC;go_wp2;refine bodyPost_ret (v:=.tuple #[.agg #[.slice none 0 0,.int .i64 0,.slice none 0 0,.slice none 0 0],.int .i64 5]) (by simp[results,Tryz.results127,go_sem,r0,r1,r2,r3]) rfl ?_;rw[HN.out];exact⟨none,0,none,0,none,0,rfl,TotR.zero _,below_set4 HF.out.1 (Nat.le_refl _) _ _ _ _⟩
    have F1:=hid f1;clear f1;cases f2:fitsL ss (neumL 1).length
    ·have HN:Hid (rparseL9 l=(zeroT,5)):=hid (by rw[HR.out,HT.out];unfold fin9;rw[if_neg (by rw[f2];simp)]);have F2:=hid f2;clear f2;go_enter Tryz.func127,Tryz.ntmps127;go_wp2_with fail;refine C1.out.mono ?_;rintro e w1 ⟨A1,a1,B1,b1,rfl,hi1,hi2,hn1,hn2,hb⟩;go_wp2_with fail;refine (C2.out _).mono ?_;rintro e w2 ⟨rfl,hw⟩;have hw2:=hw.symm;clear hw;subst hw2;have HM:=hid (rmoore_one w1);go_wp2_with fail;refine HM.out.mono ?_;rintro e w2 ⟨A3,a3,rfl,hp,hn3,hb3⟩;have hb0:=HB.out.1.trans (hb.mono HB.out.1.size);have hbb:=hb0.trans (hb3.mono hb0.size);have br:=(HB.out.2.below hb HB.out.2.lt).below hb3 (HB.out.2.below hb HB.out.2.lt).lt;have hj1:=hi1.ext hb3;have hj2:=hi2.ext hb3;have hm1:NewA (w.heap.size+1) A1:=by simpa using hn1
     have hm2:NewA (w.heap.size+1) B1:=by simpa using hn2
     have hm3:NewA (w.heap.size+1) A3:=hn3.mono (by have:=hb.size;simp at this;exact this);clear HM hi1 hi2 hn1 hn2 hn3 hb hb3 hb0;have HM:=hid (rneum_one w2);go_wp2_with fail;refine HM.out.mono ?_;rintro e w3 ⟨A4,a4,rfl,hp4,hn4,hb4⟩;have hbb2:=hbb.trans (hb4.mono hbb.size);have br2:=br.below hb4 br.lt;have hj12:=hj1.ext hb4;have hj22:=hj2.ext hb4;have hm4:NewA (w.heap.size+1) A4:=hn4.mono (by have:=br.lt;omega);clear HM br hj1 hj2 hn4 hb4 hbb hp hm3;have br:=br2;have hj1:=hj12;have hj2:=hj22;have hbb:=hbb2;have hp:=hp4;have hm3:=hm4;clear br2 hj12 hj22 hbb2 hp4 hm4;have r0:=br.cell_ 0 _ rfl;have r1:=br.cell_ 1 _ rfl;have r2:=br.cell_ 2 _ rfl;have r3:=br.cell_ 3 _ rfl;have g0:=br.frozen 0;have g1:=br.frozen 1;have g2:=br.frozen 2;have g3:=br.frozen 3;have HF:=hid (And.intro hbb (And.intro hp (And.intro hj1 (And.intro hj2 (And.intro hm1 (And.intro hm2 hm3))))));clear br hbb hp hj1 hj2 hm1 hm2 hm3;have HC:=hid (fits_any A1 A4 bs a1 a4 (neumL 1) _ HF.out.2.2.1 (by decide));rw[F1.out] at HC;go_wp2_with fail;refine HC.out.mono ?_;rintro e w9 ⟨rfl,hw⟩;have hw2:=hw.symm;clear hw;subst hw2;clear HC;have HC:=hid (fits_any B1 A4 ss b1 a4 (neumL 1) _ HF.out.2.2.2.1 (by decide));rw[F2.out] at HC;go_wp2_with fail;refine HC.out.mono ?_;rintro e w9 ⟨rfl,hw⟩;have hw2:=hw.symm;clear hw;subst hw2;clear HC;go_wp2;refine bodyPost_ret (v:=.tuple #[.agg #[.slice none 0 0,.int .i64 0,.slice none 0 0,.slice none 0 0],.int .i64 5]) (by simp[results,Tryz.results127,go_sem,r0,r1,r2,r3]) rfl ?_;rw[HN.out];exact⟨none,0,none,0,none,0,rfl,TotR.zero _,below_set4 HF.out.1 (Nat.le_refl _) _ _ _ _⟩
    ·have HN:Hid (rparseL9 l=(⟨neumL 1,n,bs,ss⟩,0)):=hid (by rw[HR.out,HT.out];unfold fin9;rw[if_pos ⟨by omega,by omega,F1.out,f2⟩]);have F2:=hid f2;clear f2;go_enter Tryz.func127,Tryz.ntmps127;go_wp2_with fail;refine C1.out.mono ?_;rintro e w1 ⟨A1,a1,B1,b1,rfl,hi1,hi2,hn1,hn2,hb⟩;go_wp2_with fail;refine (C2.out _).mono ?_;rintro e w2 ⟨rfl,hw⟩;have hw2:=hw.symm;clear hw;subst hw2;have HM:=hid (rmoore_one w1);go_wp2_with fail;refine HM.out.mono ?_;rintro e w2 ⟨A3,a3,rfl,hp,hn3,hb3⟩;have hb0:=HB.out.1.trans (hb.mono HB.out.1.size);have hbb:=hb0.trans (hb3.mono hb0.size);have br:=(HB.out.2.below hb HB.out.2.lt).below hb3 (HB.out.2.below hb HB.out.2.lt).lt;have hj1:=hi1.ext hb3;have hj2:=hi2.ext hb3;have hm1:NewA (w.heap.size+1) A1:=by simpa using hn1
     have hm2:NewA (w.heap.size+1) B1:=by simpa using hn2
     have hm3:NewA (w.heap.size+1) A3:=hn3.mono (by have:=hb.size;simp at this;exact this);clear HM hi1 hi2 hn1 hn2 hn3 hb hb3 hb0;have HM:=hid (rneum_one w2);go_wp2_with fail;refine HM.out.mono ?_;rintro e w3 ⟨A4,a4,rfl,hp4,hn4,hb4⟩;have hbb2:=hbb.trans (hb4.mono hbb.size);have br2:=br.below hb4 br.lt;have hj12:=hj1.ext hb4;have hj22:=hj2.ext hb4;have hm4:NewA (w.heap.size+1) A4:=hn4.mono (by have:=br.lt;omega);clear HM br hj1 hj2 hn4 hb4 hbb hp hm3;have br:=br2;have hj1:=hj12;have hj2:=hj22;have hbb:=hbb2;have hp:=hp4;have hm3:=hm4;clear br2 hj12 hj22 hbb2 hp4 hm4;have r0:=br.cell_ 0 _ rfl;have r1:=br.cell_ 1 _ rfl;have r2:=br.cell_ 2 _ rfl;have r3:=br.cell_ 3 _ rfl;have g0:=br.frozen 0;have g1:=br.frozen 1;have g2:=br.frozen 2;have g3:=br.frozen 3;have HF:=hid (And.intro hbb (And.intro hp (And.intro hj1 (And.intro hj2 (And.intro hm1 (And.intro hm2 hm3))))));clear br hbb hp hj1 hj2 hm1 hm2 hm3;have HC:=hid (fits_any A1 A4 bs a1 a4 (neumL 1) _ HF.out.2.2.1 (by decide));rw[F1.out] at HC;go_wp2_with fail;refine HC.out.mono ?_;rintro e w9 ⟨rfl,hw⟩;have hw2:=hw.symm;clear hw;subst hw2;clear HC;have HC:=hid (fits_any B1 A4 ss b1 a4 (neumL 1) _ HF.out.2.2.2.1 (by decide));rw[F2.out] at HC;go_wp2_with fail;refine HC.out.mono ?_;rintro e w9 ⟨rfl,hw⟩;have hw2:=hw.symm;clear hw;subst hw2;clear HC;go_wp2;refine bodyPost_ret (v:=.tuple #[.agg #[.slice A4 (neumL 1).length a4,.int .i64 n,.slice A1 bs.length a1,.slice B1 ss.length b1],.int .i64 0]) (by simp[results,Tryz.results127,go_sem,r0,r1,r2,r3]) rfl ?_;rw[HN.out];exact⟨A4,a4,A1,a1,B1,b1,rfl,(TotR.mk HF.out.2.1 HF.out.2.2.1 HF.out.2.2.2.1:TotR _ A4 A1 B1 ⟨neumL 1,n,bs,ss⟩).set49 HF.out.2.2.2.2.2.2 HF.out.2.2.2.2.1 HF.out.2.2.2.2.2.1 _ _ _ _,below_set4 HF.out.1 (Nat.le_refl _) _ _ _ _⟩
   have y1:((s.extract k.toNat s.size).toList == [86])=false:=by rw[ey];simpa using EY
   have EY1:=hid EY;clear EY;by_cases EY:l.drop k.toNat=[72]
   ·have y2:((s.extract k.toNat s.size).toList == [72])=true:=by rw[ey,EY];rfl
    clear ey;have HT:Hid (tail9 bs ss n (l.drop k.toNat)=fin9 bs ss n (hexL)):=hid (by unfold tail9;rw[if_neg (by rw[EY];simp),if_neg (by rw[EY];decide),if_pos EY]);clear EY;by_cases n1:n < 3
    ·have dn:decide (n < 3)=true:=decide_eq_true n1;have HN:Hid (rparseL9 l=(zeroT,5)):=hid (by rw[HR.out,HT.out];unfold fin9;rw[if_neg (by omega)]);go_enter Tryz.func127,Tryz.ntmps127;go_wp2_with fail;refine C1.out.mono ?_;rintro e w1 ⟨A1,a1,B1,b1,rfl,hi1,hi2,hn1,hn2,hb⟩;go_wp2_with fail;refine (C2.out _).mono ?_;rintro e w2 ⟨rfl,hw⟩;have hw2:=hw.symm;clear hw;subst hw2;have HM:=hid (rmoore_one w1);go_wp2_with fail;refine HM.out.mono ?_;rintro e w2 ⟨A3,a3,rfl,hp,hn3,hb3⟩;have hb0:=HB.out.1.trans (hb.mono HB.out.1.size);have hbb:=hb0.trans (hb3.mono hb0.size);have br:=(HB.out.2.below hb HB.out.2.lt).below hb3 (HB.out.2.below hb HB.out.2.lt).lt;have hj1:=hi1.ext hb3;have hj2:=hi2.ext hb3;have hm1:NewA (w.heap.size+1) A1:=by simpa using hn1
     have hm2:NewA (w.heap.size+1) B1:=by simpa using hn2
     have hm3:NewA (w.heap.size+1) A3:=hn3.mono (by have:=hb.size;simp at this;exact this);clear HM hi1 hi2 hn1 hn2 hn3 hb hb3 hb0;have HM:=hid (rhex_any w2);go_wp2_with fail;refine HM.out.mono ?_;rintro e w3 ⟨A4,a4,rfl,hp4,hn4,hb4⟩;have hbb2:=hbb.trans (hb4.mono hbb.size);have br2:=br.below hb4 br.lt;have hj12:=hj1.ext hb4;have hj22:=hj2.ext hb4;have hm4:NewA (w.heap.size+1) A4:=hn4.mono (by have:=br.lt;omega);clear HM br hj1 hj2 hn4 hb4 hbb hp hm3;have br:=br2;have hj1:=hj12;have hj2:=hj22;have hbb:=hbb2;have hp:=hp4;have hm3:=hm4;clear br2 hj12 hj22 hbb2 hp4 hm4;have r0:=br.cell_ 0 _ rfl;have r1:=br.cell_ 1 _ rfl;have r2:=br.cell_ 2 _ rfl;have r3:=br.cell_ 3 _ rfl;have g0:=br.frozen 0;have g1:=br.frozen 1;have g2:=br.frozen 2;have g3:=br.frozen 3;have HF:=hid (And.intro hbb (And.intro hp (And.intro hj1 (And.intro hj2 (And.intro hm1 (And.intro hm2 hm3))))));clear br hbb hp hj1 hj2 hm1 hm2 hm3;go_wp2;refine bodyPost_ret (v:=.tuple #[.agg #[.slice none 0 0,.int .i64 0,.slice none 0 0,.slice none 0 0],.int .i64 5]) (by simp[results,Tryz.results127,go_sem,r0,r1,r2,r3]) rfl ?_;rw[HN.out];exact⟨none,0,none,0,none,0,rfl,TotR.zero _,below_set4 HF.out.1 (Nat.le_refl _) _ _ _ _⟩
    have dn:decide (n < 3)=false:=decide_eq_false n1;by_cases n2:8 < n
    ·have dn2:decide (8 < n)=true:=decide_eq_true n2;have HN:Hid (rparseL9 l=(zeroT,5)):=hid (by rw[HR.out,HT.out];unfold fin9;rw[if_neg (by omega)]);go_enter Tryz.func127,Tryz.ntmps127;go_wp2_with fail;refine C1.out.mono ?_;rintro e w1 ⟨A1,a1,B1,b1,rfl,hi1,hi2,hn1,hn2,hb⟩;go_wp2_with fail;refine (C2.out _).mono ?_;rintro e w2 ⟨rfl,hw⟩;have hw2:=hw.symm;clear hw;subst hw2;have HM:=hid (rmoore_one w1);go_wp2_with fail;refine HM.out.mono ?_;rintro e w2 ⟨A3,a3,rfl,hp,hn3,hb3⟩;have hb0:=HB.out.1.trans (hb.mono HB.out.1.size);have hbb:=hb0.trans (hb3.mono hb0.size);have br:=(HB.out.2.below hb HB.out.2.lt).below hb3 (HB.out.2.below hb HB.out.2.lt).lt;have hj1:=hi1.ext hb3;have hj2:=hi2.ext hb3;have hm1:NewA (w.heap.size+1) A1:=by simpa using hn1
     have hm2:NewA (w.heap.size+1) B1:=by simpa using hn2
     have hm3:NewA (w.heap.size+1) A3:=hn3.mono (by have:=hb.size;simp at this;exact this);clear HM hi1 hi2 hn1 hn2 hn3 hb hb3 hb0;have HM:=hid (rhex_any w2);go_wp2_with fail;refine HM.out.mono ?_;rintro e w3 ⟨A4,a4,rfl,hp4,hn4,hb4⟩;have hbb2:=hbb.trans (hb4.mono hbb.size);have br2:=br.below hb4 br.lt;have hj12:=hj1.ext hb4;have hj22:=hj2.ext hb4;have hm4:NewA (w.heap.size+1) A4:=hn4.mono (by have:=br.lt;omega);clear HM br hj1 hj2 hn4 hb4 hbb hp hm3;have br:=br2;have hj1:=hj12;have hj2:=hj22;have hbb:=hbb2;have hp:=hp4;have hm3:=hm4;clear br2 hj12 hj22 hbb2 hp4 hm4;have r0:=br.cell_ 0 _ rfl;have r1:=br.cell_ 1 _ rfl;have r2:=br.cell_ 2 _ rfl;have r3:=br.cell_ 3 _ rfl;have g0:=br.frozen 0;have g1:=br.frozen 1;have g2:=br.frozen 2;have g3:=br.frozen 3;have HF:=hid (And.intro hbb (And.intro hp (And.intro hj1 (And.intro hj2 (And.intro hm1 (And.intro hm2 hm3))))));clear br hbb hp hj1 hj2 hm1 hm2 hm3;go_wp2;refine bodyPost_ret (v:=.tuple #[.agg #[.slice none 0 0,.int .i64 0,.slice none 0 0,.slice none 0 0],.int .i64 5]) (by simp[results,Tryz.results127,go_sem,r0,r1,r2,r3]) rfl ?_;rw[HN.out];exact⟨none,0,none,0,none,0,rfl,TotR.zero _,below_set4 HF.out.1 (Nat.le_refl _) _ _ _ _⟩
    have dn2:decide (8 < n)=false:=decide_eq_false n2;cases f1:fitsL bs (hexL).length
    ·have HN:Hid (rparseL9 l=(zeroT,5)):=hid (by rw[HR.out,HT.out];unfold fin9;rw[if_neg (by rw[f1];simp)]);have F1:=hid f1;clear f1;go_enter Tryz.func127,Tryz.ntmps127;go_wp2_with fail;refine C1.out.mono ?_;rintro e w1 ⟨A1,a1,B1,b1,rfl,hi1,hi2,hn1,hn2,hb⟩;go_wp2_with fail;refine (C2.out _).mono ?_;rintro e w2 ⟨rfl,hw⟩;have hw2:=hw.symm;clear hw;subst hw2;have HM:=hid (rmoore_one w1);go_wp2_with fail;refine HM.out.mono ?_;rintro e w2 ⟨A3,a3,rfl,hp,hn3,hb3⟩;have hb0:=HB.out.1.trans (hb.mono HB.out.1.size);have hbb:=hb0.trans (hb3.mono hb0.size);have br:=(HB.out.2.below hb HB.out.2.lt).below hb3 (HB.out.2.below hb HB.out.2.lt).lt;have hj1:=hi1.ext hb3;have hj2:=hi2.ext hb3;have hm1:NewA (w.heap.size+1) A1:=by simpa using hn1
     have hm2:NewA (w.heap.size+1) B1:=by simpa using hn2
     have hm3:NewA (w.heap.size+1) A3:=hn3.mono (by have:=hb.size;simp at this;exact this);clear HM hi1 hi2 hn1 hn2 hn3 hb hb3 hb0;have HM:=hid (rhex_any w2);go_wp2_with fail;refine HM.out.mono ?_;rintro e w3 ⟨A4,a4,rfl,hp4,hn4,hb4⟩;have hbb2:=hbb.trans (hb4.mono hbb.size);have br2:=br.below hb4 br.lt;have hj12:=hj1.ext hb4;have hj22:=hj2.ext hb4;have hm4:NewA (w.heap.size+1) A4:=hn4.mono (by have:=br.lt;omega);clear HM br hj1 hj2 hn4 hb4 hbb hp hm3;have br:=br2;have hj1:=hj12;have hj2:=hj22;have hbb:=hbb2;have hp:=hp4;have hm3:=hm4;clear br2 hj12 hj22 hbb2 hp4 hm4;have r0:=br.cell_ 0 _ rfl;have r1:=br.cell_ 1 _ rfl;have r2:=br.cell_ 2 _ rfl;have r3:=br.cell_ 3 _ rfl;have g0:=br.frozen 0;have g1:=br.frozen 1;have g2:=br.frozen 2;have g3:=br.frozen 3;have HF:=hid (And.intro hbb (And.intro hp (And.intro hj1 (And.intro hj2 (And.intro hm1 (And.intro hm2 hm3))))));clear br hbb hp hj1 hj2 hm1 hm2 hm3;have HC:=hid (fits_any A1 A4 bs a1 a4 (hexL) _ HF.out.2.2.1 (by decide));rw[F1.out] at HC;go_wp2_with fail;refine HC.out.mono ?_;rintro e w9 ⟨rfl,hw⟩;have hw2:=hw.symm;clear hw;subst hw2;clear HC;go_wp2;refine bodyPost_ret (v:=.tuple #[.agg #[.slice none 0 0,.int .i64 0,.slice none 0 0,.slice none 0 0],.int .i64 5]) (by simp[results,Tryz.results127,go_sem,r0,r1,r2,r3]) rfl ?_;rw[HN.out];exact⟨none,0,none,0,none,0,rfl,TotR.zero _,below_set4 HF.out.1 (Nat.le_refl _) _ _ _ _⟩
    have F1:=hid f1;clear f1;cases f2:fitsL ss (hexL).length
    ·have HN:Hid (rparseL9 l=(zeroT,5)):=hid (by rw[HR.out,HT.out];unfold fin9;rw[if_neg (by rw[f2];simp)]);have F2:=hid f2;clear f2;go_enter Tryz.func127,Tryz.ntmps127;go_wp2_with fail;refine C1.out.mono ?_;rintro e w1 ⟨A1,a1,B1,b1,rfl,hi1,hi2,hn1,hn2,hb⟩;go_wp2_with fail;refine (C2.out _).mono ?_;rintro e w2 ⟨rfl,hw⟩;have hw2:=hw.symm;clear hw;subst hw2;have HM:=hid (rmoore_one w1);go_wp2_with fail;refine HM.out.mono ?_;rintro e w2 ⟨A3,a3,rfl,hp,hn3,hb3⟩;have hb0:=HB.out.1.trans (hb.mono HB.out.1.size);have hbb:=hb0.trans (hb3.mono hb0.size);have br:=(HB.out.2.below hb HB.out.2.lt).below hb3 (HB.out.2.below hb HB.out.2.lt).lt;have hj1:=hi1.ext hb3;have hj2:=hi2.ext hb3;have hm1:NewA (w.heap.size+1) A1:=by simpa using hn1
     have hm2:NewA (w.heap.size+1) B1:=by simpa using hn2
     have hm3:NewA (w.heap.size+1) A3:=hn3.mono (by have:=hb.size;simp at this;exact this);clear HM hi1 hi2 hn1 hn2 hn3 hb hb3 hb0;have HM:=hid (rhex_any w2);go_wp2_with fail;refine HM.out.mono ?_;rintro e w3 ⟨A4,a4,rfl,hp4,hn4,hb4⟩;have hbb2:=hbb.trans (hb4.mono hbb.size);have br2:=br.below hb4 br.lt;have hj12:=hj1.ext hb4;have hj22:=hj2.ext hb4;have hm4:NewA (w.heap.size+1) A4:=hn4.mono (by have:=br.lt;omega);clear HM br hj1 hj2 hn4 hb4 hbb hp hm3;have br:=br2;have hj1:=hj12;have hj2:=hj22;have hbb:=hbb2;have hp:=hp4;have hm3:=hm4;clear br2 hj12 hj22 hbb2 hp4 hm4;have r0:=br.cell_ 0 _ rfl;have r1:=br.cell_ 1 _ rfl;have r2:=br.cell_ 2 _ rfl;have r3:=br.cell_ 3 _ rfl;have g0:=br.frozen 0;have g1:=br.frozen 1;have g2:=br.frozen 2;have g3:=br.frozen 3;have HF:=hid (And.intro hbb (And.intro hp (And.intro hj1 (And.intro hj2 (And.intro hm1 (And.intro hm2 hm3))))));clear br hbb hp hj1 hj2 hm1 hm2 hm3;have HC:=hid (fits_any A1 A4 bs a1 a4 (hexL) _ HF.out.2.2.1 (by decide));rw[F1.out] at HC;go_wp2_with fail;refine HC.out.mono ?_;rintro e w9 ⟨rfl,hw⟩;have hw2:=hw.symm;clear hw;subst hw2;clear HC;have HC:=hid (fits_any B1 A4 ss b1 a4 (hexL) _ HF.out.2.2.2.1 (by decide));rw[F2.out] at HC;go_wp2_with fail;refine HC.out.mono ?_;rintro e w9 ⟨rfl,hw⟩;have hw2:=hw.symm;clear hw;subst hw2;clear HC;go_wp2;refine bodyPost_ret (v:=.tuple #[.agg #[.slice none 0 0,.int .i64 0,.slice none 0 0,.slice none 0 0],.int .i64 5]) (by simp[results,Tryz.results127,go_sem,r0,r1,r2,r3]) rfl ?_;rw[HN.out];exact⟨none,0,none,0,none,0,rfl,TotR.zero _,below_set4 HF.out.1 (Nat.le_refl _) _ _ _ _⟩
    ·have HN:Hid (rparseL9 l=(⟨hexL,n,bs,ss⟩,0)):=hid (by rw[HR.out,HT.out];unfold fin9;rw[if_pos ⟨by omega,by omega,F1.out,f2⟩]);have F2:=hid f2;clear f2;go_enter Tryz.func127,Tryz.ntmps127;go_wp2_with fail;refine C1.out.mono ?_;rintro e w1 ⟨A1,a1,B1,b1,rfl,hi1,hi2,hn1,hn2,hb⟩;go_wp2_with fail;refine (C2.out _).mono ?_;rintro e w2 ⟨rfl,hw⟩;have hw2:=hw.symm;clear hw;subst hw2;have HM:=hid (rmoore_one w1);go_wp2_with fail;refine HM.out.mono ?_;rintro e w2 ⟨A3,a3,rfl,hp,hn3,hb3⟩;have hb0:=HB.out.1.trans (hb.mono HB.out.1.size);have hbb:=hb0.trans (hb3.mono hb0.size);have br:=(HB.out.2.below hb HB.out.2.lt).below hb3 (HB.out.2.below hb HB.out.2.lt).lt;have hj1:=hi1.ext hb3;have hj2:=hi2.ext hb3;have hm1:NewA (w.heap.size+1) A1:=by simpa using hn1
     have hm2:NewA (w.heap.size+1) B1:=by simpa using hn2
     have hm3:NewA (w.heap.size+1) A3:=hn3.mono (by have:=hb.size;simp at this;exact this);clear HM hi1 hi2 hn1 hn2 hn3 hb hb3 hb0;have HM:=hid (rhex_any w2);go_wp2_with fail;refine HM.out.mono ?_;rintro e w3 ⟨A4,a4,rfl,hp4,hn4,hb4⟩;have hbb2:=hbb.trans (hb4.mono hbb.size);have br2:=br.below hb4 br.lt;have hj12:=hj1.ext hb4;have hj22:=hj2.ext hb4;have hm4:NewA (w.heap.size+1) A4:=hn4.mono (by have:=br.lt;omega);clear HM br hj1 hj2 hn4 hb4 hbb hp hm3;have br:=br2;have hj1:=hj12;have hj2:=hj22;have hbb:=hbb2;have hp:=hp4;have hm3:=hm4;clear br2 hj12 hj22 hbb2 hp4 hm4;have r0:=br.cell_ 0 _ rfl;have r1:=br.cell_ 1 _ rfl;have r2:=br.cell_ 2 _ rfl;have r3:=br.cell_ 3 _ rfl;have g0:=br.frozen 0;have g1:=br.frozen 1;have g2:=br.frozen 2;have g3:=br.frozen 3;have HF:=hid (And.intro hbb (And.intro hp (And.intro hj1 (And.intro hj2 (And.intro hm1 (And.intro hm2 hm3))))));clear br hbb hp hj1 hj2 hm1 hm2 hm3;have HC:=hid (fits_any A1 A4 bs a1 a4 (hexL) _ HF.out.2.2.1 (by decide));rw[F1.out] at HC;go_wp2_with fail;refine HC.out.mono ?_;rintro e w9 ⟨rfl,hw⟩;have hw2:=hw.symm;clear hw;subst hw2;clear HC;have HC:=hid (fits_any B1 A4 ss b1 a4 (hexL) _ HF.out.2.2.2.1 (by decide));rw[F2.out] at HC;go_wp2_with fail;refine HC.out.mono ?_;rintro e w9 ⟨rfl,hw⟩;have hw2:=hw.symm;clear hw;subst hw2;clear HC;go_wp2;refine bodyPost_ret (v:=.tuple #[.agg #[.slice A4 (hexL).length a4,.int .i64 n,.slice A1 bs.length a1,.slice B1 ss.length b1],.int .i64 0]) (by simp[results,Tryz.results127,go_sem,r0,r1,r2,r3]) rfl ?_;rw[HN.out];exact⟨A4,a4,A1,a1,B1,b1,rfl,(TotR.mk HF.out.2.1 HF.out.2.2.1 HF.out.2.2.2.1:TotR _ A4 A1 B1 ⟨hexL,n,bs,ss⟩).set49 HF.out.2.2.2.2.2.2 HF.out.2.2.2.2.1 HF.out.2.2.2.2.2.1 _ _ _ _,below_set4 HF.out.1 (Nat.le_refl _) _ _ _ _⟩
   have y2:((s.extract k.toNat s.size).toList == [72])=false:=by rw[ey];simpa using EY
   have EY2:=hid EY;clear EY ey;have HN:Hid (rparseL9 l=(zeroT,15)):=hid (by rw[HR.out];unfold tail9;rw[if_neg EY0.out,if_neg EY1.out,if_neg EY2.out]);go_enter Tryz.func127,Tryz.ntmps127;go_wp2_with fail;refine C1.out.mono ?_;rintro e w1 ⟨A1,a1,B1,b1,rfl,hi1,hi2,hn1,hn2,hb⟩;go_wp2_with fail;refine (C2.out _).mono ?_;rintro e w2 ⟨rfl,hw⟩;have hw2:=hw.symm;clear hw;subst hw2;have HM:=hid (rmoore_one w1);go_wp2_with fail;refine HM.out.mono ?_;rintro e w2 ⟨A3,a3,rfl,hp,hn3,hb3⟩;have hb0:=HB.out.1.trans (hb.mono HB.out.1.size);have hbb:=hb0.trans (hb3.mono hb0.size);have br:=(HB.out.2.below hb HB.out.2.lt).below hb3 (HB.out.2.below hb HB.out.2.lt).lt;have hj1:=hi1.ext hb3;have hj2:=hi2.ext hb3;have hm1:NewA (w.heap.size+1) A1:=by simpa using hn1
   have hm2:NewA (w.heap.size+1) B1:=by simpa using hn2
   have hm3:NewA (w.heap.size+1) A3:=hn3.mono (by have:=hb.size;simp at this;exact this);clear HM hi1 hi2 hn1 hn2 hn3 hb hb3 hb0;have r0:=br.cell_ 0 _ rfl;have r1:=br.cell_ 1 _ rfl;have r2:=br.cell_ 2 _ rfl;have r3:=br.cell_ 3 _ rfl;have g0:=br.frozen 0;have g1:=br.frozen 1;have g2:=br.frozen 2;have g3:=br.frozen 3;have HF:=hid (And.intro hbb (And.intro hp (And.intro hj1 (And.intro hj2 (And.intro hm1 (And.intro hm2 hm3))))));clear br hbb hp hj1 hj2 hm1 hm2 hm3;go_wp2;refine bodyPost_ret (v:=.tuple #[.agg #[.slice none 0 0,.int .i64 0,.slice none 0 0,.slice none 0 0],.int .i64 15]) (by simp[results,Tryz.results127,go_sem,r0,r1,r2,r3]) rfl ?_;rw[HN.out];exact⟨none,0,none,0,none,0,rfl,TotR.zero _,below_set4 HF.out.1 (Nat.le_refl _) _ _ _ _⟩
end Go.Proofs.YtcfelnhmifkelaaGreatDoor
namespace Go.Proofs.YtcfelnhmifkelaaGreatDoor
set_option maxRecDepth 100000
open Go.RowKit
set_option linter.unusedVariables false
set_option linter.unusedSimpArgs false

theorem index_app {a r:List UInt8}(h:(47:UInt8) ∉ a):Lib.index (a ++ 47 :: r) [47]=a.length:=by
 refine Lib.index_first (by simp) (by simp[Lib.occAt]) (fun j hj=>?_);unfold Lib.occAt;rw[List.drop_append_of_le_length (by omega),List.drop_eq_getElem_cons hj];have hne:a[j]≠47:=fun he=>h (he ▸ List.getElem_mem hj);simp only[List.cons_append,List.isPrefixOf,Bool.and_true];simpa using Ne.symm hne
theorem splitK_app {a r:List UInt8}(h:(47:UInt8) ∉ a) (k:Nat):Lib.splitK [47] 0 (k+1) (a ++ 47 :: r)=a :: Lib.splitK [47] 0 k r:=by
 rw[Lib.splitK,index_app h];have:¬ (((a.length:Nat):Int) == -1)=true:=by rw[beq_iff_eq];omega
 rw[if_neg this]
 simp
theorem count_app {a r:List UInt8}(h:(47:UInt8) ∉ a):(a ++ 47 :: r).count 47=r.count 47+1:=by
 simp[List.count_append,List.count_eq_zero.2 h]
theorem one_cut:∀ (l:List UInt8)(n:Nat),l.count 47=n+1→∃ a r,l=a ++ 47 :: r∧(47:UInt8) ∉ a∧r.count 47=n
 | [],n,h=>by simp at h
 | c :: l,n,h=>by
  by_cases hc:c=47
  ·subst hc;exact⟨[],l,rfl,by simp,by simpa using h⟩
  ·rw[List.count_cons,if_neg (by simpa using hc)] at h;obtain⟨a,r,h1,h2,h3⟩:=one_cut l n h;refine⟨c :: a,r,by simp[h1],?_,h3⟩;intro hm;rcases List.mem_cons.1 hm with hm | hm
   ·exact hc hm.symm
   ·exact h2 hm
theorem three_of {l:List UInt8}(h:l.count 47=2):∃ a b c,l=a ++ 47 :: (b ++ 47 :: c)∧(47:UInt8) ∉ a∧(47:UInt8) ∉ b∧(47:UInt8) ∉ c:=by
 obtain⟨a,r,h1,h2,h3⟩:=one_cut l 1 h;obtain⟨b,c,h4,h5,h6⟩:=one_cut r 0 h3;exact⟨a,b,c,by rw[h1,h4],h2,h5,List.count_eq_zero.1 h6⟩
theorem splitK_three {a b c:List UInt8}(ha:(47:UInt8) ∉ a) (hb:(47:UInt8) ∉ b):Lib.splitK [47] 0 2 (a ++ 47 :: (b ++ 47 :: c))=[a,b,c]:=by
 rw[splitK_app ha,splitK_app hb];rfl
theorem count_three {a b c:List UInt8}(ha:(47:UInt8) ∉ a) (hb:(47:UInt8) ∉ b) (hc:(47:UInt8) ∉ c):(a ++ 47 :: (b ++ 47 :: c)).count 47=2:=by
 rw[count_app ha,count_app hb,List.count_eq_zero.2 hc]

def tailV9 (l:List UInt8):Bool:=Lib.hasSuffix l [86]
def tailH9 (l:List UInt8):Bool:=Lib.hasSuffix l [72]
def cutV9 (l:List UInt8):List UInt8:=Lib.trimSuffix l [86]
def cutH9 (l:List UInt8):List UInt8:=Lib.trimSuffix l [72]
def hoodP9 (l:List UInt8):List UInt8 × List (Int × Int):=if tailV9 l then (cutV9 l,neumL 1) else if tailH9 l then (cutH9 l,hexL) else (l,mooreL 1)
def startB9 (l:List UInt8):Bool:=Lib.hasPrefix l [66]
def restB9 (l:List UInt8):List UInt8:=Lib.trimPrefix l [66]
def startS (l:List UInt8):Bool:=Lib.hasPrefix l [83]
def restS (l:List UInt8):List UInt8:=Lib.trimPrefix l [83]
def startC (l:List UInt8):Bool:=Lib.hasPrefix l [67]
def restC (l:List UInt8):List UInt8:=Lib.trimPrefix l [67]
def form3 (s a b c:List UInt8):Option (List UInt8 × List UInt8 × List UInt8):=
 if startB9 s then if startS b then if startC c then some (a.drop 1,restS b,restC c) else none else none else some (b,a,c)
def partsG (l:List UInt8):Option (List UInt8 × List UInt8 × List UInt8):=
 match Lib.splitK [47] 0 2 l with
 | [a,b,c]=>if l.count 47=2 then form3 l a b c else none
 | _=>none
def endG (b s:List Int × Bool)(n:List UInt8)(h:List (Int × Int)):TotL × Int:=
 if b.2 then if s.2 then if numG n then
  if 3≤numV n∧numV n≤8∧rightT ⟨h,numV n,b.1,s.1⟩=true then (⟨h,numV n,b.1,s.1⟩,0) else (zeroT,5)
 else (zeroT,15) else (zeroT,15) else (zeroT,15)
def partG (p:Option (List UInt8 × List UInt8 × List UInt8)) (h:List (Int × Int)):TotL × Int:=
 match p with
 | none=>(zeroT,15)
 | some (b,s,n)=>endG (digG b) (digG s) n h
def parseG (l:List UInt8):TotL × Int:=partG (partsG (hoodP9 l).1) (hoodP9 l).2
theorem parts_none {l:List UInt8}(h:¬ l.count 47=2):partsG l=none:=by
 unfold partsG
 split
 ·rw[if_neg h]
 ·rfl
theorem parts_three {a b c:List UInt8}(ha:(47:UInt8) ∉ a) (hb:(47:UInt8) ∉ b) (hc:(47:UInt8) ∉ c):partsG (a ++ 47 :: (b ++ 47 :: c))=form3 (a ++ 47 :: (b ++ 47 :: c)) a b c:=by
 unfold partsG;rw[splitK_three ha hb];show (if (a ++ 47 :: (b ++ 47 :: c)).count 47=2 then _ else none)=_;rw[if_pos (count_three ha hb hc)]
theorem startB_cons {a r:List UInt8}(h:startB9 (a ++ 47 :: r)=true):∃ a',a=66 :: a'∧restB9 (a ++ 47 :: r)=a' ++ 47 :: r:=by
 unfold restB9 Lib.trimPrefix;unfold startB9 at h;rw[if_pos h];cases a with
 | nil=>simp[Lib.hasPrefix] at h
 | cons x a'=>
  have hx:x=66:=by
   simp[Lib.hasPrefix] at h;exact h.symm
  subst hx;exact⟨a',rfl,by simp⟩
theorem trimPrefix_len9 (l p:List UInt8):(Lib.trimPrefix l p).length≤l.length:=by
 unfold Lib.trimPrefix;split <;> simp
theorem trimSuffix_len9 (l p:List UInt8):(Lib.trimSuffix l p).length≤l.length:=by
 unfold Lib.trimSuffix;split <;> simp <;> omega
theorem splitB_three {a b c:List UInt8}(ha:(47:UInt8) ∉ a) (hb:(47:UInt8) ∉ b):Lib.splitB ⟨#[47]⟩ 0 2 ⟨(a ++ 47 :: (b ++ 47 :: c)).toArray⟩=[⟨a.toArray⟩,⟨b.toArray⟩,⟨c.toArray⟩]:=by
 have h:=Lib.splitB_data ⟨#[47]⟩ 0 2 ⟨(a ++ 47 :: (b ++ 47 :: c)).toArray⟩;have h2:(Lib.splitB ⟨#[47]⟩ 0 2 ⟨(a ++ 47 :: (b ++ 47 :: c)).toArray⟩).map (·.data.toList)=[a,b,c]:=h.trans (by
  have:=splitK_three (c:=c) ha hb;simpa using this)
 generalize Lib.splitB ⟨#[47]⟩ 0 2 ⟨(a ++ 47 :: (b ++ 47 :: c)).toArray⟩=L at h2;have key:∀ (x:ByteArray) (l:List UInt8),x.data.toList=l→x=⟨l.toArray⟩:=by
  intro x l hx;subst hx;rfl
 match L,h2 with
 | [x,y,z],h2=>
  simp only[List.map_cons,List.map_nil,List.cons.injEq,and_true] at h2;rw[key x a h2.1,key y b h2.2.1,key z c h2.2.2]
theorem atoi_num {n:List UInt8}(h:numG n=true):Lib.atoi n=some (numV n):=by
 unfold numG at h;simp only[Bool.and_eq_true,decide_eq_true_eq] at h;obtain⟨⟨⟨h1,h2⟩,h3⟩,h4⟩:=h;have dv:∀ c:UInt8,isDig9 c=true→Lib.digitVal c=some (c.toNat - 48)∧(48≤c.toNat∧c.toNat≤57):=by
  intro c hc;unfold isDig9 at hc;simp only[Bool.and_eq_true,decide_eq_true_eq] at hc;have g:48≤c.toNat∧c.toNat≤57:=by omega
  exact⟨by unfold Lib.digitVal;rw[if_pos g],g⟩
 have ne:∀ (c d:UInt8),c.toNat≠d.toNat→(c == d)=false:=by
  intro c d hcd;rw[beq_eq_false_iff_ne];intro e;exact hcd (by rw[e])
 match n,h1,h2,h3 with
 | [a],h1,_,_=>
  simp only[List.all_cons,List.all_nil,Bool.and_true] at h1;obtain⟨ea,ga⟩:=dv a h1;have e1:=ne a 45 (by show a.toNat≠45;omega);have e2:=ne a 43 (by show a.toNat≠43;omega);simp only[Lib.atoi,e1,e2,Bool.false_eq_true,if_false,Lib.decNat,List.isEmpty_cons,Lib.decFrom,ea,Option.map_some,numV,List.foldl_cons,List.foldl_nil,numStep,digOf9]
  congr 1
  omega
 | [a,b],h1,_,_=>
  simp only[List.all_cons,List.all_nil,Bool.and_true,Bool.and_eq_true] at h1;obtain⟨ea,ga⟩:=dv a h1.1;obtain⟨eb,gb⟩:=dv b h1.2;have e1:=ne a 45 (by show a.toNat≠45;omega);have e2:=ne a 43 (by show a.toNat≠43;omega);simp only[Lib.atoi,e1,e2,Bool.false_eq_true,if_false,Lib.decNat,List.isEmpty_cons,Lib.decFrom,ea,eb,Option.map_some,numV,List.foldl_cons,List.foldl_nil,numStep,digOf9]
  congr 1
  omega
 | [a,b,c],h1,_,_=>
  simp only[List.all_cons,List.all_nil,Bool.and_true,Bool.and_eq_true] at h1;obtain⟨ea,ga⟩:=dv a h1.1;obtain⟨eb,gb⟩:=dv b h1.2.1;obtain⟨ec,gc⟩:=dv c h1.2.2;have e1:=ne a 45 (by show a.toNat≠45;omega);have e2:=ne a 43 (by show a.toNat≠43;omega);simp only[Lib.atoi,e1,e2,Bool.false_eq_true,if_false,Lib.decNat,List.isEmpty_cons,Lib.decFrom,ea,eb,ec,Option.map_some,numV,List.foldl_cons,List.foldl_nil,numStep,digOf9]
  congr 1
  omega
end Go.Proofs.YtcfelnhmifkelaaGreatDoor
