/-
  texts NumbR HdrP Hdr: parts of the proof; conditions stand with each theorem.
-/
import Derived.Test.YtcfelnhmifkelaaGreatDoorVG4
import Derived.Test.YtcfelnhmifkelaaGreatDoorVShelf
import Derived.Test.YtcfelnhmifkelaaGreatDoorVG0
namespace Go.Proofs.YtcfelnhmifkelaaGreatDoor
open Lib(hid)
open Go.RowKit
set_option maxRecDepth 100000
set_option linter.unusedVariables false
set_option linter.unusedSimpArgs false

def afterL (l:List UInt8)(p:Int)(t:List UInt8):Int:=
 if 0≤p∧p+t.length≤l.length∧(l.drop p.toNat).take t.length=t then p+t.length else -1
set_option maxHeartbeats 800000 in
theorem after_any (s t:ByteArray)(p:Int)(w:World)(hs:s.size≤2147483648)(ht:t.size≤10)(hp:p≤2147483648)(hp2:-10≤p) :
  Calls Tryz.prog 139 #[.string s,.int .i64 p,.string t] w fun e w'=>e=.returned (.int .i64 (afterL s.data.toList p t.data.toList))∧w'=w:=by
 by_cases h1:p < 0
 ·have d1:decide (p < 0)=true:=decide_eq_true h1;have HN:Hid (afterL s.data.toList p t.data.toList = -1):=hid (by unfold afterL;rw[if_neg (by omega)]);go_enter Tryz.func139,Tryz.ntmps139;go_wp2;go_ret;exact⟨ret_int HN.out.symm,rfl⟩
 ·have d1:decide (p < 0)=false:=decide_eq_false h1;by_cases h2:(s.size:Int) < p+t.size
  ·have d2:decide ((s.size:Int) < p+t.size)=true:=decide_eq_true h2;have HN:Hid (afterL s.data.toList p t.data.toList = -1):=hid (by unfold afterL;rw[if_neg (by rw[← Lib.size_eq,← Lib.size_eq];omega)]);go_enter Tryz.func139,Tryz.ntmps139;go_wp2;go_ret;exact⟨ret_int HN.out.symm,rfl⟩
  ·have d2:decide ((s.size:Int) < p+t.size)=false:=decide_eq_false h2;go_enter Tryz.func139,Tryz.ntmps139;go_wp2
   ·rename_i h;have HN:afterL s.data.toList p t.data.toList = -1:=by
     unfold afterL;rw[if_neg];rintro⟨-,-,h3⟩;rw[Lib.extract_toList,ByteArray.toList_eq] at h;have e:(p+(t.size:Int)).toNat - p.toNat=t.data.toList.length:=by rw[← Lib.size_eq];omega
     rw[e,h3] at h;simp at h
    go_ret;exact⟨ret_int HN.symm,rfl⟩
   ·rename_i h;have HN:afterL s.data.toList p t.data.toList=p+t.size:=by
     unfold afterL;have e:(p+(t.size:Int)).toNat - p.toNat=t.data.toList.length:=by rw[← Lib.size_eq];omega
     rw[Lib.extract_toList,ByteArray.toList_eq,e] at h;have h3:(s.data.toList.drop p.toNat).take t.data.toList.length=t.data.toList:=by simpa using h
     rw[if_pos ⟨by omega,(by rw[← Lib.size_eq,← Lib.size_eq];omega),h3⟩,← Lib.size_eq]
    go_ret;exact⟨ret_int HN.symm,rfl⟩
theorem numQ_bad {m p:Nat}{l:List UInt8}(h:okN m (digRun (l.drop p))=false):numQ m l p=(-1,(p:Int)):=by unfold numQ;rw[if_neg (by rw[h];simp)]
theorem numQ_good {m p:Nat}{l:List UInt8}(h:okN m (digRun (l.drop p))=true):numQ m l p=(numL (digRun (l.drop p)),(p:Int)+(digRun (l.drop p)).length):=by unfold numQ;rw[if_pos h]
theorem head_run {l xs:List UInt8}{p:Nat}{m:Nat}(h:p < l.length)(h2:digRun (l.drop p)≠[]):(digRun (l.drop p)).headD 0=l[p]:=by
 by_cases hd:isDig l[p]=true
 ·rw[digRun_yes h hd];rfl
 ·rw[digRun_no h (by simpa using hd)] at h2;exact absurd rfl h2
set_option maxHeartbeats 4000000 in
theorem numQ_any (s:ByteArray)(p m:Nat)(w:World)(hp:p≤s.size)(hs:s.size≤2147483648)(hm:m≤9) :
  Calls Tryz.prog 108 #[.string s,.int .i64 p,.int .i64 m] w fun e w'=>e=.returned (.tuple #[.int .i64 (numQ m s.data.toList p).1,.int .i64 (numQ m s.data.toList p).2])∧w'=w:=by
 obtain⟨l,hl⟩:∃ l,l=s.data.toList:=⟨_,rfl⟩
 have hgb:∀ j (h:j < s.size) (h':j < l.length),l[j]=s[j]:=by subst hl;exact get_byte s
 have hlen:l.length=s.size:=by rw[hl];rfl
 rw[← hl];have HG:=hid (And.intro hlen hgb);clear hl hgb hlen;obtain⟨ds,hds⟩:∃ ds,ds=digRun (l.drop p):=⟨_,rfl⟩
 have HR:=hid hds;have HDA:Hid (∀ c ∈ ds,isDig c=true):=hid (by rw[hds];exact digRun_all _);clear hds;go_enter Tryz.func108,Tryz.ntmps108;go_wp2;go_loopw [8,9] (fun n i wr=>∃ (j:Nat) (v:Int) (xs:List UInt8),p≤j∧j≤s.size∧i=.int .i64 j∧n=.int .i64 v∧wr=w∧xs.length+p=j∧xs.length≤m+1∧Hid (v=numL xs∧ds=xs ++ digRun (l.drop j))) (fun _ i _=>s.size - (intOf i).toNat)
 case atStart=>exact⟨p,0,[],Nat.le_refl _,hp,rfl,rfl,rfl,by simp,by simp,hid ⟨rfl,HR.out⟩⟩
 case round=>
  obtain⟨j,v,xs,hpj,hjs,rfl,rfl,hw,hxj,hxm,HT⟩:=hrel;have hw2:=hw.symm;clear hw;subst hw2;have hv0:0≤v∧v < 10000000000:=by
   rw[HT.out.1];refine numL_bd (fun c hc=>HDA.out c ?_) (by omega);rw[HT.out.2];exact List.mem_append_left _ hc
  have hwj:wrap64 ((j:Int) - (p:Int))=(j:Int) - (p:Int):=by unfold wrap64;omega
  have HX:Hid (xs.length≤ds.length):=hid (by rw[HT.out.2];simp);by_cases hlt:j < s.size
  ·have hlt':j < l.length:=by rw[HG.out.1];exact hlt
   have hc0:(s[j].toNat:Int)≤255:=by have:=s[j].toNat_lt;omega
   have hdg:isDig l[j]=(decide ((48:Int)≤s[j].toNat) && decide ((s[j].toNat:Int)≤57)):=by rw[HG.out.2 j hlt hlt'];rfl
   have hdo:digOf l[j]=(s[j].toNat:Int) - 48:=by rw[HG.out.2 j hlt hlt'];rfl
   have HD:=hid (And.intro hdg hdo);clear hdg hdo;have d0:decide ((j:Int) < (s.size:Int))=true:=decide_eq_true (by omega);by_cases h1:48≤(s[j].toNat:Int)
   ·by_cases h2:(s[j].toNat:Int)≤57
    ·have d1:decide ((48:Int)≤s[j].toNat)=true:=decide_eq_true h1;have d2:decide ((s[j].toNat:Int)≤57)=true:=decide_eq_true h2;have HY:Hid (digRun (l.drop j)=l[j] :: digRun (l.drop (j+1))):=hid (digRun_yes hlt' (by rw[HD.out.1,d1,d2];rfl));by_cases h3:xs.length≤m
     ·have d3:decide ((j:Int) - (p:Int)≤(m:Int))=true:=decide_eq_true (by omega);have HN:Hid (10*v+((s[j].toNat:Int) - 48)=numL (xs ++ [l[j]])∧ds=(xs ++ [l[j]]) ++ digRun (l.drop (j+1))):=hid ⟨by
       rw[numL_snoc,HD.out.2,HT.out.1],by rw[HT.out.2,HY.out,List.append_assoc];rfl⟩
      go_wp2;go_roundw
      case rel=>exact⟨j+1,_,xs ++ [l[j]],by omega,by omega,by go_num,rfl,(by first | rfl | trivial),by simp;omega,by simp;omega,HN⟩
      case measure=>simp[intOf];omega
     ·have d3:decide ((j:Int) - (p:Int)≤(m:Int))=false:=decide_eq_false (by omega);have HV:Hid (ds=xs∨m+1=xs.length):=hid (.inr (by omega));by_cases k1:xs.length=0
      ·have e1:((j:Int) == (p:Int))=true:=by simp;omega
       have HN:Hid (numQ m l p=(-1,(p:Int))):=hid (numQ_bad (by
        rw[← HR.out];rcases HV.out with h | h
        ·rw[h,List.eq_nil_of_length_eq_zero k1];exact okN_nil m
        ·omega))
       have K1:=hid k1;clear k1;go_wp2;go_ret2;rw[HN.out];exact⟨rfl,rfl⟩
      ·have e1:((j:Int) == (p:Int))=false:=by simp;omega
       by_cases k2:m < xs.length
       ·have e2:decide ((m:Int) < (j:Int) - (p:Int))=true:=decide_eq_true (by omega);have HN:Hid (numQ m l p=(-1,(p:Int))):=hid (numQ_bad (by
         rw[← HR.out];exact okN_long (by have:=HX.out;omega)))
        go_wp2;go_ret2;rw[HN.out];exact⟨rfl,rfl⟩
       ·have e2:decide ((m:Int) < (j:Int) - (p:Int))=false:=decide_eq_false (by omega);have HE:Hid (ds=xs):=hid (HV.out.elim id (fun h=>by omega));have hps:p < s.size:=by omega
        have hpl:p < l.length:=by rw[HG.out.1];exact hps
        have HH:Hid (ds.headD 0=s[p]):=hid (by
         rw[HR.out,head_run (xs:=[]) (m:=0) hpl,HG.out.2 p hps hpl];rw[← HR.out,HE.out];rintro rfl;exact k1 rfl)
        by_cases k3:s[p]=48
        ·have e3:((s[p].toNat:Int) == 48)=true:=by rw[k3];rfl
         by_cases k4:1 < xs.length
         ·have e4:decide ((1:Int) < (j:Int) - (p:Int))=true:=decide_eq_true (by omega);have HN:Hid (numQ m l p=(-1,(p:Int))):=hid (numQ_bad (by
           rw[← HR.out];exact okN_zero (by rw[HE.out];exact k4) (by rw[HH.out];exact k3)))
          clear k3;go_wp2;go_ret2;rw[HN.out];exact⟨rfl,rfl⟩
         ·have e4:decide ((1:Int) < (j:Int) - (p:Int))=false:=decide_eq_false (by omega);have HN:Hid (numQ m l p=(v,(j:Int))):=hid (by
           rw[numQ_good (by rw[← HR.out];exact okN_yes (by rw[HE.out];omega) (by rw[HE.out];omega) (by rw[HE.out];omega)),← HR.out,HE.out,HT.out.1,show (p:Int)+xs.length=j from by omega])
          clear k3;go_wp2;go_ret2;rw[HN.out];exact⟨rfl,rfl⟩
        ·have e3:((s[p].toNat:Int) == 48)=false:=by
          simp only[beq_eq_false_iff_ne,ne_eq];intro h;exact k3 (UInt8.toNat_inj.1 (by have:(48:UInt8).toNat=48:=rfl;omega))
         have HN:Hid (numQ m l p=(v,(j:Int))):=hid (by
          rw[numQ_good (by rw[← HR.out];exact okN_yes (by rw[HE.out];omega) (by rw[HE.out];omega) (by rw[HH.out];exact fun h=>k3 h.2)),← HR.out,HE.out,HT.out.1,show (p:Int)+xs.length=j from by omega])
         clear k3;go_wp2;go_ret2;rw[HN.out];exact⟨rfl,rfl⟩
    ·have d1:decide ((48:Int)≤s[j].toNat)=true:=decide_eq_true h1;have d2:decide ((s[j].toNat:Int)≤57)=false:=decide_eq_false h2;have HV:Hid (ds=xs∨m+1=xs.length):=hid (.inl (by rw[HT.out.2,digRun_no hlt' (by rw[HD.out.1,d1,d2];rfl),List.append_nil]));by_cases k1:xs.length=0
     ·have e1:((j:Int) == (p:Int))=true:=by simp;omega
      have HN:Hid (numQ m l p=(-1,(p:Int))):=hid (numQ_bad (by
       rw[← HR.out];rcases HV.out with h | h
       ·rw[h,List.eq_nil_of_length_eq_zero k1];exact okN_nil m
       ·omega))
      have K1:=hid k1;clear k1;go_wp2;go_ret2;rw[HN.out];exact⟨rfl,rfl⟩
     ·have e1:((j:Int) == (p:Int))=false:=by simp;omega
      by_cases k2:m < xs.length
      ·have e2:decide ((m:Int) < (j:Int) - (p:Int))=true:=decide_eq_true (by omega);have HN:Hid (numQ m l p=(-1,(p:Int))):=hid (numQ_bad (by
        rw[← HR.out];exact okN_long (by have:=HX.out;omega)))
       go_wp2;go_ret2;rw[HN.out];exact⟨rfl,rfl⟩
      ·have e2:decide ((m:Int) < (j:Int) - (p:Int))=false:=decide_eq_false (by omega);have HE:Hid (ds=xs):=hid (HV.out.elim id (fun h=>by omega));have hps:p < s.size:=by omega
       have hpl:p < l.length:=by rw[HG.out.1];exact hps
       have HH:Hid (ds.headD 0=s[p]):=hid (by
        rw[HR.out,head_run (xs:=[]) (m:=0) hpl,HG.out.2 p hps hpl];rw[← HR.out,HE.out];rintro rfl;exact k1 rfl)
       by_cases k3:s[p]=48
       ·have e3:((s[p].toNat:Int) == 48)=true:=by rw[k3];rfl
        by_cases k4:1 < xs.length
        ·have e4:decide ((1:Int) < (j:Int) - (p:Int))=true:=decide_eq_true (by omega);have HN:Hid (numQ m l p=(-1,(p:Int))):=hid (numQ_bad (by
          rw[← HR.out];exact okN_zero (by rw[HE.out];exact k4) (by rw[HH.out];exact k3)))
         clear k3;go_wp2;go_ret2;rw[HN.out];exact⟨rfl,rfl⟩
        ·have e4:decide ((1:Int) < (j:Int) - (p:Int))=false:=decide_eq_false (by omega);have HN:Hid (numQ m l p=(v,(j:Int))):=hid (by
          rw[numQ_good (by rw[← HR.out];exact okN_yes (by rw[HE.out];omega) (by rw[HE.out];omega) (by rw[HE.out];omega)),← HR.out,HE.out,HT.out.1,show (p:Int)+xs.length=j from by omega])
         clear k3;go_wp2;go_ret2;rw[HN.out];exact⟨rfl,rfl⟩
       ·have e3:((s[p].toNat:Int) == 48)=false:=by
         simp only[beq_eq_false_iff_ne,ne_eq];intro h;exact k3 (UInt8.toNat_inj.1 (by have:(48:UInt8).toNat=48:=rfl;omega))
        have HN:Hid (numQ m l p=(v,(j:Int))):=hid (by
         rw[numQ_good (by rw[← HR.out];exact okN_yes (by rw[HE.out];omega) (by rw[HE.out];omega) (by rw[HH.out];exact fun h=>k3 h.2)),← HR.out,HE.out,HT.out.1,show (p:Int)+xs.length=j from by omega])
        clear k3;go_wp2;go_ret2;rw[HN.out];exact⟨rfl,rfl⟩
   ·have d1:decide ((48:Int)≤s[j].toNat)=false:=decide_eq_false h1;have HV:Hid (ds=xs∨m+1=xs.length):=hid (.inl (by rw[HT.out.2,digRun_no hlt' (by rw[HD.out.1,d1];rfl),List.append_nil]));by_cases k1:xs.length=0
    ·have e1:((j:Int) == (p:Int))=true:=by simp;omega
     have HN:Hid (numQ m l p=(-1,(p:Int))):=hid (numQ_bad (by
      rw[← HR.out];rcases HV.out with h | h
      ·rw[h,List.eq_nil_of_length_eq_zero k1];exact okN_nil m
      ·omega))
     have K1:=hid k1;clear k1;go_wp2;go_ret2;rw[HN.out];exact⟨rfl,rfl⟩
    ·have e1:((j:Int) == (p:Int))=false:=by simp;omega
     by_cases k2:m < xs.length
     ·have e2:decide ((m:Int) < (j:Int) - (p:Int))=true:=decide_eq_true (by omega);have HN:Hid (numQ m l p=(-1,(p:Int))):=hid (numQ_bad (by
       rw[← HR.out];exact okN_long (by have:=HX.out;omega)))
      go_wp2;go_ret2;rw[HN.out];exact⟨rfl,rfl⟩
     ·have e2:decide ((m:Int) < (j:Int) - (p:Int))=false:=decide_eq_false (by omega);have HE:Hid (ds=xs):=hid (HV.out.elim id (fun h=>by omega));have hps:p < s.size:=by omega
      have hpl:p < l.length:=by rw[HG.out.1];exact hps
      have HH:Hid (ds.headD 0=s[p]):=hid (by
       rw[HR.out,head_run (xs:=[]) (m:=0) hpl,HG.out.2 p hps hpl];rw[← HR.out,HE.out];rintro rfl;exact k1 rfl)
      by_cases k3:s[p]=48
      ·have e3:((s[p].toNat:Int) == 48)=true:=by rw[k3];rfl
       by_cases k4:1 < xs.length
       ·have e4:decide ((1:Int) < (j:Int) - (p:Int))=true:=decide_eq_true (by omega);have HN:Hid (numQ m l p=(-1,(p:Int))):=hid (numQ_bad (by
         rw[← HR.out];exact okN_zero (by rw[HE.out];exact k4) (by rw[HH.out];exact k3)))
        clear k3;go_wp2;go_ret2;rw[HN.out];exact⟨rfl,rfl⟩
       ·have e4:decide ((1:Int) < (j:Int) - (p:Int))=false:=decide_eq_false (by omega);have HN:Hid (numQ m l p=(v,(j:Int))):=hid (by
         rw[numQ_good (by rw[← HR.out];exact okN_yes (by rw[HE.out];omega) (by rw[HE.out];omega) (by rw[HE.out];omega)),← HR.out,HE.out,HT.out.1,show (p:Int)+xs.length=j from by omega])
        clear k3;go_wp2;go_ret2;rw[HN.out];exact⟨rfl,rfl⟩
      ·have e3:((s[p].toNat:Int) == 48)=false:=by
        simp only[beq_eq_false_iff_ne,ne_eq];intro h;exact k3 (UInt8.toNat_inj.1 (by have:(48:UInt8).toNat=48:=rfl;omega))
       have HN:Hid (numQ m l p=(v,(j:Int))):=hid (by
        rw[numQ_good (by rw[← HR.out];exact okN_yes (by rw[HE.out];omega) (by rw[HE.out];omega) (by rw[HH.out];exact fun h=>k3 h.2)),← HR.out,HE.out,HT.out.1,show (p:Int)+xs.length=j from by omega])
       clear k3;go_wp2;go_ret2;rw[HN.out];exact⟨rfl,rfl⟩
  ·have d0:decide ((j:Int) < (s.size:Int))=false:=decide_eq_false (by omega);have HV:Hid (ds=xs∨m+1=xs.length):=hid (.inl (by rw[HT.out.2,List.drop_of_length_le (by rw[HG.out.1];omega),show digRun []=[] from rfl,List.append_nil]));by_cases k1:xs.length=0
   ·have e1:((j:Int) == (p:Int))=true:=by simp;omega
    have HN:Hid (numQ m l p=(-1,(p:Int))):=hid (numQ_bad (by
     rw[← HR.out];rcases HV.out with h | h
     ·rw[h,List.eq_nil_of_length_eq_zero k1];exact okN_nil m
     ·omega))
    have K1:=hid k1;clear k1;go_wp2;go_ret2;rw[HN.out];exact⟨rfl,rfl⟩
   ·have e1:((j:Int) == (p:Int))=false:=by simp;omega
    by_cases k2:m < xs.length
    ·have e2:decide ((m:Int) < (j:Int) - (p:Int))=true:=decide_eq_true (by omega);have HN:Hid (numQ m l p=(-1,(p:Int))):=hid (numQ_bad (by
      rw[← HR.out];exact okN_long (by have:=HX.out;omega)))
     go_wp2;go_ret2;rw[HN.out];exact⟨rfl,rfl⟩
    ·have e2:decide ((m:Int) < (j:Int) - (p:Int))=false:=decide_eq_false (by omega);have HE:Hid (ds=xs):=hid (HV.out.elim id (fun h=>by omega));have hps:p < s.size:=by omega
     have hpl:p < l.length:=by rw[HG.out.1];exact hps
     have HH:Hid (ds.headD 0=s[p]):=hid (by
      rw[HR.out,head_run (xs:=[]) (m:=0) hpl,HG.out.2 p hps hpl];rw[← HR.out,HE.out];rintro rfl;exact k1 rfl)
     by_cases k3:s[p]=48
     ·have e3:((s[p].toNat:Int) == 48)=true:=by rw[k3];rfl
      by_cases k4:1 < xs.length
      ·have e4:decide ((1:Int) < (j:Int) - (p:Int))=true:=decide_eq_true (by omega);have HN:Hid (numQ m l p=(-1,(p:Int))):=hid (numQ_bad (by
        rw[← HR.out];exact okN_zero (by rw[HE.out];exact k4) (by rw[HH.out];exact k3)))
       clear k3;go_wp2;go_ret2;rw[HN.out];exact⟨rfl,rfl⟩
      ·have e4:decide ((1:Int) < (j:Int) - (p:Int))=false:=decide_eq_false (by omega);have HN:Hid (numQ m l p=(v,(j:Int))):=hid (by
        rw[numQ_good (by rw[← HR.out];exact okN_yes (by rw[HE.out];omega) (by rw[HE.out];omega) (by rw[HE.out];omega)),← HR.out,HE.out,HT.out.1,show (p:Int)+xs.length=j from by omega])
       clear k3;go_wp2;go_ret2;rw[HN.out];exact⟨rfl,rfl⟩
     ·have e3:((s[p].toNat:Int) == 48)=false:=by
       simp only[beq_eq_false_iff_ne,ne_eq];intro h;exact k3 (UInt8.toNat_inj.1 (by have:(48:UInt8).toNat=48:=rfl;omega))
      have HN:Hid (numQ m l p=(v,(j:Int))):=hid (by
       rw[numQ_good (by rw[← HR.out];exact okN_yes (by rw[HE.out];omega) (by rw[HE.out];omega) (by rw[HH.out];exact fun h=>k3 h.2)),← HR.out,HE.out,HT.out.1,show (p:Int)+xs.length=j from by omega])
      clear k3;go_wp2;go_ret2;rw[HN.out];exact⟨rfl,rfl⟩
end Go.Proofs.YtcfelnhmifkelaaGreatDoor
namespace Go.Proofs.YtcfelnhmifkelaaGreatDoor
open Go.RowKit
set_option linter.unusedVariables false
set_option linter.unusedSimpArgs false

def tx:List UInt8:=[120,32,61,32]
def ty:List UInt8:=[44,32,121,32,61,32]
def tr:List UInt8:=[44,32,114,117,108,101,32,61,32]
def hdrT (l:List UInt8):Int × Int × List UInt8 × Bool:=
 if Lib.hasPrefix l tx=false then (0,0,[],false)
 else if (Lib.cut (Lib.trimPrefix l tx) ty).2.2=false then (0,0,[],false)
 else ((numT 9 (Lib.cut (Lib.trimPrefix l tx) ty).1).1,(numT 9 (Lib.cut (Lib.cut (Lib.trimPrefix l tx) ty).2.1 tr).1).1,(Lib.cut (Lib.cut (Lib.trimPrefix l tx) ty).2.1 tr).2.1,
  (Lib.cut (Lib.cut (Lib.trimPrefix l tx) ty).2.1 tr).2.2 && (numT 9 (Lib.cut (Lib.trimPrefix l tx) ty).1).2 && (numT 9 (Lib.cut (Lib.cut (Lib.trimPrefix l tx) ty).2.1 tr).1).2)
theorem numT_run (a:List UInt8):numT 9 (digRun a)=if okN 9 (digRun a)=true then (numL (digRun a),true) else (0,false):=by
 unfold numT;have h:(digRun a).all isDig=true:=by rw[List.all_eq_true];exact digRun_all a
 by_cases h2:okN 9 (digRun a)=true
 ·rw[if_pos ⟨h2,h⟩,if_pos h2]
 ·rw[if_neg (fun h3=>h2 h3.1),if_neg h2]
theorem run_get {a:List UInt8}{j:Nat}(h:j < (digRun a).length):∃ c,a[j]?=some c∧isDig c=true:=by
 have h1:=digRun_split a;refine⟨(digRun a)[j],?_,digRun_all a _ (List.getElem_mem h)⟩
 conv=>lhs;rw[h1]
 rw[List.getElem?_append_left h,List.getElem?_eq_getElem h]
theorem run_of_take:∀ {a:List UInt8}{i:Nat}{c:UInt8},(∀ x ∈ a.take i,isDig x=true)→a[i]?=some c→isDig c=false→digRun a=a.take i
 | [],i,c,_,h,_=>by simp at h
 | b :: a,0,c,_,h,hc=>by
  simp at h;subst h;simp[digRun,hc]
 | b :: a,i+1,c,ha,h,hc=>by
  have hb:isDig b=true:=ha b (by simp);have:=run_of_take (a:=a) (i:=i) (fun x hx=>ha x (by simp[hx])) (by simpa using h) hc;simp[digRun,hb,this]
theorem cut_hit {a t b:List UInt8}(hs:stripL (44 :: t) (a.drop (digRun a).length)=some b):Lib.cut a (44 :: t)=(digRun a,b,true):=by
 unfold stripL at hs
 split at hs
 ·rename_i hp;have hb:=Option.some.inj hs;have hi:Lib.index a (44 :: t)=((digRun a).length:Nat):=by
   refine Lib.index_first (digRun_le a) hp ?_;intro j hj;cases ho:Lib.occAt a (44 :: t) j
   ·rfl
   ·obtain⟨c,h1,h2⟩:=run_get hj;rw[Lib.occAt_head rfl ho] at h1;cases h1
    revert h2
    decide
  unfold Lib.cut;rw[hi,if_pos (by omega)];refine Prod.ext ?_ (Prod.ext ?_ rfl)
  ·show a.take _=digRun a;rw[Int.toNat_natCast];have h1:=digRun_split a;have h2:a.take (digRun a).length=(digRun a ++ a.drop (digRun a).length).take (digRun a).length:=by rw[← h1]
   rw[h2,List.take_left]
  ·show a.drop _=b;rw[← hb,List.drop_drop,Int.toNat_natCast]
 ·cases hs
theorem cut_occ {a sep:List UInt8}(h:0≤Lib.index a sep)(hn:sep≠[]):Lib.occAt a sep (Lib.index a sep).toNat=true:=by
 by_cases hall:∀ j,j≤a.length→Lib.occAt a sep j=false
 ·rw[Lib.index_none hall] at h;omega
 ·have hex:∃ j,j≤a.length∧Lib.occAt a sep j=true:=by
   refine Classical.byContradiction fun hne=>hall fun j hj=>?_;cases ho:Lib.occAt a sep j
   ·rfl
   ·exact absurd ⟨j,hj,ho⟩ hne
  have key:∀ n j,j≤n→j≤a.length→Lib.occAt a sep j=true→∃ i,i≤a.length∧Lib.occAt a sep i=true∧∀ k,k < i→Lib.occAt a sep k=false:=by
   intro n;induction n with
   | zero=>
    intro j hj hl ho;obtain rfl:j=0:=by omega
    exact⟨0,hl,ho,fun k hk=>absurd hk (by omega)⟩
   | succ n ih=>
    intro j hj hl ho;by_cases hex2:∃ k,k < j∧Lib.occAt a sep k=true
    ·obtain⟨k,hk,hk2⟩:=hex2;exact ih k (by omega) (by omega) hk2
    ·refine⟨j,hl,ho,fun k hk=>?_⟩;cases hk2:Lib.occAt a sep k
     ·rfl
     ·exact absurd ⟨k,hk,hk2⟩ hex2
  obtain⟨j,hj,ho⟩:=hex;obtain⟨i,h1,h2,h3⟩:=key j j (Nat.le_refl _) hj ho;rw[Lib.index_first h1 h2 h3,Int.toNat_natCast];exact h2
theorem cut_miss {a t:List UInt8}(hs:stripL (44 :: t) (a.drop (digRun a).length)=none) (hc:(Lib.cut a (44 :: t)).2.2=true):(numT 9 (Lib.cut a (44 :: t)).1).2=false:=by
 cases hn:(numT 9 (Lib.cut a (44 :: t)).1).2
 ·rfl
 ·exfalso;unfold Lib.cut at hc hn
  split at hc
  ·rename_i h0;rw[if_pos h0] at hn;dsimp only at hn;have ho:=cut_occ h0 (by simp);have hd:∀ x ∈ a.take (Lib.index a (44 :: t)).toNat,isDig x=true:=by
    unfold numT at hn
    split at hn
    ·rename_i h2;exact List.all_eq_true.1 h2.2
    ·cases hn
   have hr:=run_of_take hd (Lib.occAt_head rfl ho) (by decide);have hlen:(digRun a).length=(Lib.index a (44 :: t)).toNat:=by
    rw[hr,List.length_take];have:=Lib.occAt_room ho;rcases this with h | h
    ·omega
    ·simp at h
   unfold stripL at hs;rw[hlen,if_pos (show (44 :: t).isPrefixOf (a.drop (Lib.index a (44 :: t)).toNat)=true from ho)] at hs;cases hs
  ·cases hc
theorem hdrT_none {l:List UInt8}(h:hdrL l=none):(hdrT l).2.2.2=false:=by
 unfold hdrT;by_cases h1:Lib.hasPrefix l tx=false
 ·rw[if_pos h1]
 rw[if_neg h1];by_cases h2:(Lib.cut (Lib.trimPrefix l tx) ty).2.2=false
 ·rw[if_pos h2]
 rw[if_neg h2];have h1':tx.isPrefixOf l=true:=by simpa [Lib.hasPrefix] using h1
 have ht:Lib.trimPrefix l tx=l.drop 4:=by
  unfold Lib.trimPrefix Lib.hasPrefix;rw[if_pos h1'];rfl
 rw[ht] at h2 ⊢;unfold hdrL at h;rw[show stripL [120,32,61,32] l=some (l.drop 4) from by unfold stripL;exact if_pos h1'] at h;dsimp only at h ⊢;cases hs:stripL ty ((l.drop 4).drop (digRun (l.drop 4)).length) with
 | none=>
  have hm:(numT 9 (Lib.cut (l.drop 4) ty).1).2=false:=cut_miss hs (by simpa [ty] using h2);rw[hm]
  simp
 | some b=>
  have hc:Lib.cut (l.drop 4) ty=(digRun (l.drop 4),b,true):=cut_hit hs;rw[hc];dsimp only;rw[numT_run];by_cases ho:okN 9 (digRun (l.drop 4))=false
  ·rw[if_neg (by rw[ho];simp)]
   simp
  rw[if_neg ho] at h;rw[show stripL [44,32,121,32,61,32] ((l.drop 4).drop (digRun (l.drop 4)).length)=some b from hs] at h;dsimp only at h;cases hs2:stripL tr (b.drop (digRun b).length) with
  | none=>
   cases hcc:(Lib.cut b tr).2.2
   ·simp
   ·have hm:(numT 9 (Lib.cut b tr).1).2=false:=cut_miss hs2 hcc;rw[hm]
    simp
  | some r=>
   have hc2:Lib.cut b tr=(digRun b,r,true):=cut_hit hs2;rw[hc2];dsimp only;rw[numT_run];by_cases ho2:okN 9 (digRun b)=false
   ·rw[if_neg (c:=okN 9 (digRun b)=true) (by rw[ho2];simp)]
    simp
   rw[if_neg ho2] at h;rw[show stripL [44,32,114,117,108,101,32,61,32] (b.drop (digRun b).length)=some r from hs2] at h;cases h
theorem hdrT_some {l r:List UInt8}{w h:Int}(hh:hdrL l=some (w,h,r)):hdrT l=(w,h,r,true):=by
 unfold hdrL at hh;cases hs0:stripL [120,32,61,32] l with
 | none=>rw[hs0] at hh;cases hh
 | some a=>
  rw[hs0] at hh;dsimp only at hh;have h1:tx.isPrefixOf l=true∧a=l.drop 4:=by
   unfold stripL at hs0
   split at hs0
   ·rename_i h;exact⟨h,(Option.some.inj hs0).symm⟩
   ·cases hs0
  by_cases ho:okN 9 (digRun a)=false
  ·rw[if_pos ho] at hh;cases hh
  rw[if_neg ho] at hh;cases hs1:stripL [44,32,121,32,61,32] (a.drop (digRun a).length) with
  | none=>rw[hs1] at hh;cases hh
  | some b=>
   rw[hs1] at hh;dsimp only at hh;by_cases ho2:okN 9 (digRun b)=false
   ·rw[if_pos ho2] at hh;cases hh
   rw[if_neg ho2] at hh;cases hs2:stripL [44,32,114,117,108,101,32,61,32] (b.drop (digRun b).length) with
   | none=>rw[hs2] at hh;cases hh
   | some r'=>
    rw[hs2] at hh;dsimp only at hh;have h2:=Option.some.inj hh;injection h2 with e1 h2
    injection h2 with e2 e3
    subst e1 e2 e3;have hc1:Lib.cut a ty=(digRun a,b,true):=cut_hit hs1;have hc2:Lib.cut b tr=(digRun b,r',true):=cut_hit hs2;unfold hdrT;rw[if_neg (by unfold Lib.hasPrefix;rw[h1.1];simp),show Lib.trimPrefix l tx=a by unfold Lib.trimPrefix Lib.hasPrefix;rw[if_pos h1.1,h1.2];rfl,hc1];dsimp only;rw[if_neg (by simp),hc2];dsimp only;rw[numT_run,numT_run,if_pos (by simpa using ho),if_pos (by simpa using ho2)];rfl
theorem line_split (l:List UInt8):l=lineOf l ++ l.drop (lineOf l).length:=by
 obtain⟨t,ht⟩:∃ t,lineOf l ++ t=l:=List.takeWhile_prefix (l:=l) (fun c=>c != 10);have h2:l.drop (lineOf l).length=(lineOf l ++ t).drop (lineOf l).length:=by rw[ht]
 rw[h2,List.drop_left];exact ht.symm
theorem line_no:∀ (l:List UInt8),∀ c ∈ lineOf l,c≠10
 | [],c,h=>by cases h
 | a :: l,c,h=>by
  unfold lineOf at h;rw[List.takeWhile_cons] at h
  split at h
  ·rename_i ha;rcases List.mem_cons.1 h with rfl | h
   ·simpa using ha
   ·exact line_no l c h
  ·cases h
theorem strip_line {t l:List UInt8}(ht:∀ c ∈ t,c≠10):stripL t (lineOf l)=(stripL t l).map lineOf:=by
 induction t generalizing l with
 | nil=>rfl
 | cons a t ih=>
  cases l with
  | nil=>rfl
  | cons b l=>
   have ha:=ht a List.mem_cons_self;unfold stripL lineOf at *;by_cases hb:b=10
   ·subst hb;have h1:((10:UInt8) != 10)=false:=by decide
    rw[List.takeWhile_cons,h1];have h2:(a == (10:UInt8))=false:=by simpa using ha
    simp[List.isPrefixOf,h2]
   ·have h1:(b != 10)=true:=by simpa using hb
    rw[List.takeWhile_cons,if_pos h1];by_cases hab:a == b
    ·simp only[List.isPrefixOf,hab,Bool.true_and,List.length_cons,List.drop_succ_cons];exact ih (fun c hc=>ht c (List.mem_cons_of_mem _ hc))
    ·simp[List.isPrefixOf,hab]
theorem run_line:∀ l:List UInt8,digRun (lineOf l)=digRun l∧(lineOf l).drop (digRun l).length=lineOf (l.drop (digRun l).length)
 | []=>⟨rfl,rfl⟩
 | b :: l=>by
  by_cases hb:isDig b=true
  ·have h10:(b != 10)=true:=by
    simp only[bne_iff_ne,ne_eq];rintro rfl
    revert hb
    decide
   have ih:=run_line l;have e1:lineOf (b :: l)=b :: lineOf l:=by unfold lineOf;rw[List.takeWhile_cons,if_pos h10]
   have e2:digRun (b :: l)=b :: digRun l:=by simp[digRun,hb]
   have e3:digRun (b :: lineOf l)=b :: digRun (lineOf l):=by simp[digRun,hb]
   rw[e1,e2,e3,ih.1];exact⟨rfl,by simpa using ih.2⟩
  ·have e2:digRun (b :: l)=[]:=by simp[digRun,hb]
   rw[e2];refine⟨?_,rfl⟩;unfold lineOf;rw[List.takeWhile_cons]
   split
   ·simp[digRun,hb]
   ·rfl
theorem hdr_line (l:List UInt8):hdrL (lineOf l)=(hdrL l).map fun q=>(q.1,q.2.1,lineOf q.2.2):=by
 unfold hdrL;rw[strip_line (by decide)];cases stripL [120,32,61,32] l with
 | none=>rfl
 | some a=>
  dsimp only [Option.map];rw[(run_line a).1,(run_line a).2];by_cases ho:okN 9 (digRun a)=false
  ·rw[if_pos ho,if_pos ho]
  rw[if_neg ho,if_neg ho,strip_line (by decide)];cases stripL [44,32,121,32,61,32] (a.drop (digRun a).length) with
  | none=>rfl
  | some b=>
   dsimp only [Option.map];rw[(run_line b).1,(run_line b).2];by_cases ho2:okN 9 (digRun b)=false
   ·rw[if_pos ho2,if_pos ho2]
   rw[if_neg ho2,if_neg ho2,strip_line (by decide)];cases stripL [44,32,114,117,108,101,32,61,32] (b.drop (digRun b).length) with
   | none=>rfl
   | some r=>rfl
def hdrQ (l:List UInt8)(p:Nat):Int × Int × List UInt8 × Int:=
 if afterL l p tx < 0 then (0,0,[],-1)
 else if (numQ 9 l (afterL l p tx).toNat).1 < 0∨afterL l (numQ 9 l (afterL l p tx).toNat).2 ty < 0 then (0,0,[],-1)
 else if (numQ 9 l (afterL l (numQ 9 l (afterL l p tx).toNat).2 ty).toNat).1 < 0∨afterL l (numQ 9 l (afterL l (numQ 9 l (afterL l p tx).toNat).2 ty).toNat).2 tr < 0 then (0,0,[],-1)
 else ((numQ 9 l (afterL l p tx).toNat).1,(numQ 9 l (afterL l (numQ 9 l (afterL l p tx).toNat).2 ty).toNat).1,
  lineOf (l.drop (afterL l (numQ 9 l (afterL l (numQ 9 l (afterL l p tx).toNat).2 ty).toNat).2 tr).toNat),
  min (afterL l (numQ 9 l (afterL l (numQ 9 l (afterL l p tx).toNat).2 ty).toNat).2 tr+(lineOf (l.drop (afterL l (numQ 9 l (afterL l (numQ 9 l (afterL l p tx).toNat).2 ty).toNat).2 tr).toNat)).length+1) l.length)
theorem after_strip {l t:List UInt8}{p:Nat}(hp:p≤l.length):(stripL t (l.drop p)=none→afterL l p t = -1)∧(∀ b,stripL t (l.drop p)=some b→afterL l p t=((p+t.length:Nat):Int)∧p+t.length≤l.length∧b=l.drop (p+t.length)):=by
 unfold stripL afterL;refine⟨fun h=>?_,fun b h=>?_⟩
 ·split at h
  ·cases h
  ·rename_i hn;rw[if_neg];rintro⟨-,-,h3⟩;apply hn;rw[List.isPrefixOf_iff_prefix,List.prefix_iff_eq_take];rw[Int.toNat_natCast] at h3;exact h3.symm
 ·split at h
  ·rename_i hn;rw[List.isPrefixOf_iff_prefix,List.prefix_iff_eq_take] at hn;have hl:t.length≤(l.drop p).length:=by
    have:=congrArg List.length hn;rw[List.length_take] at this;omega
   rw[List.length_drop] at hl;refine⟨?_,by omega,?_⟩
   ·rw[if_pos ⟨by omega,by omega,by rw[Int.toNat_natCast];exact hn.symm⟩];omega
   ·rw[← Option.some.inj h,List.drop_drop]
  ·cases h
theorem numQ_at {l:List UInt8}{p:Nat}(hp:p≤l.length):(okN 9 (digRun (l.drop p))=false→(numQ 9 l p).1 < 0)∧(okN 9 (digRun (l.drop p))=true→0≤(numQ 9 l p).1∧(numQ 9 l p).1 < 1000000000∧numQ 9 l p=(numL (digRun (l.drop p)),((p+(digRun (l.drop p)).length:Nat):Int))∧p+(digRun (l.drop p)).length≤l.length):=by
 refine⟨fun h=>by rw[numQ_bad h];show (-1:Int) < 0;omega,fun h=>?_⟩;have h2:(digRun (l.drop p)).length≤9:=by
  unfold okN at h;simp only[Bool.and_eq_true,decide_eq_true_eq] at h;exact h.1.2
 have h3:=numL_bd9 (digRun_all (l.drop p)) h2;have h4:=digRun_le (l.drop p);rw[List.length_drop] at h4;rw[numQ_good h];exact⟨h3.1,h3.2,by rw[Int.natCast_add],by omega⟩
theorem after_line_drop {l:List UInt8}{p:Nat}(hp:p≤l.length):l.drop (min (p+(lineOf (l.drop p)).length+1) l.length)=afterLine (l.drop p):=by
 unfold afterLine;rw[List.drop_drop];by_cases h:p+(lineOf (l.drop p)).length+1≤l.length
 ·rw[Nat.min_eq_left h]
  congr 1
 ·rw[Nat.min_eq_right (by omega),List.drop_of_length_le (Nat.le_refl _),List.drop_of_length_le (by omega)]
theorem after_suffix:∀ (a r:List UInt8),(∀ c ∈ a,c≠10)→afterLine (a ++ r)=afterLine r
 | [],r,_=>rfl
 | c :: a,r,h=>by
  have hc:(c != 10)=true:=by simpa using h c List.mem_cons_self
  have ih:=after_suffix a r (fun x hx=>h x (List.mem_cons_of_mem _ hx));unfold afterLine lineOf at *;rw[List.cons_append,List.takeWhile_cons,if_pos hc,List.length_cons,List.drop_succ_cons];exact ih
theorem strip_app {t l b:List UInt8}(h:stripL t l=some b):l=t ++ b:=by
 unfold stripL at h
 split at h
 ·rename_i hn;rw[List.isPrefixOf_iff_prefix] at hn;obtain⟨x,hx⟩:=hn;rw[← Option.some.inj h,← hx,List.drop_left]
 ·cases h
theorem run_no10 (a:List UInt8):∀ c ∈ digRun a,c≠10:=fun c h=>by
 have:=digRun_all a c h;rintro rfl
 revert this
 decide
theorem hdrQ_spec (l:List UInt8)(p:Nat)(hp:p≤l.length):(hdrL (lineOf (l.drop p))=none→hdrQ l p=(0,0,[],-1))∧
  (∀ w h r,hdrL (lineOf (l.drop p))=some (w,h,r)→∃ q:Nat,hdrQ l p=(w,h,r,(q:Int))∧q≤l.length∧l.drop q=afterLine (l.drop p)∧0≤w∧0≤h∧w < 1000000000∧h < 1000000000):=by
 rw[hdr_line];unfold hdrL;cases hs0:stripL [120,32,61,32] (l.drop p) with
 | none=>
  refine⟨fun _=>?_,fun w h r hh=>by cases hh⟩;unfold hdrQ;rw[if_pos];show afterL l p [120,32,61,32] < 0;rw[(after_strip hp).1 hs0];decide
 | some a=>
  obtain⟨e0,hl0,ha⟩:=(after_strip hp).2 a hs0;obtain⟨p1,hp1⟩:∃ p1,p1=p+([120,32,61,32]:List UInt8).length:=⟨_,rfl⟩
  have e0':afterL l p tx=(p1:Int):=by rw[hp1];exact e0
  rw[← hp1] at hl0 ha;dsimp only;have hdr1:=numQ_at hl0;rw[← ha] at hdr1;by_cases ho:okN 9 (digRun a)=false
  ·rw[if_pos ho];refine⟨fun _=>?_,fun w h r hh=>by cases hh⟩;unfold hdrQ;rw[e0',if_neg (by omega),Int.toNat_natCast,if_pos (.inl (hdr1.1 ho))]
  rw[if_neg ho];obtain⟨n0,n1,n2,n3⟩:=hdr1.2 (by simpa using ho);obtain⟨p2,hp2⟩:∃ p2,p2=p1+(digRun a).length:=⟨_,rfl⟩
  rw[← hp2] at n2 n3;have ha2:a.drop (digRun a).length=l.drop p2:=by rw[ha,List.drop_drop,← ha,hp2]
  rw[ha2];cases hs1:stripL [44,32,121,32,61,32] (l.drop p2) with
  | none=>
   refine⟨fun _=>?_,fun w h r hh=>by cases hh⟩;unfold hdrQ;rw[e0',if_neg (by omega),Int.toNat_natCast,if_pos];refine .inr ?_;rw[n2];show afterL l (p2:Int) [44,32,121,32,61,32] < 0;rw[(after_strip n3).1 hs1];decide
  | some b=>
   obtain⟨f0,fl0,hb⟩:=(after_strip n3).2 b hs1;obtain⟨p3,hp3⟩:∃ p3,p3=p2+([44,32,121,32,61,32]:List UInt8).length:=⟨_,rfl⟩
   have f0':afterL l (p2:Int) ty=(p3:Int):=by rw[hp3];exact f0
   rw[← hp3] at fl0 hb;dsimp only;have hdr2:=numQ_at fl0;rw[← hb] at hdr2;by_cases ho2:okN 9 (digRun b)=false
   ·rw[if_pos ho2];refine⟨fun _=>?_,fun w h r hh=>by cases hh⟩;unfold hdrQ;rw[e0',if_neg (by omega),Int.toNat_natCast,if_neg (by rw[n2];dsimp only;rw[f0'];rw[n2] at n0;dsimp only at n0;omega),n2];dsimp only;rw[f0',Int.toNat_natCast,if_pos (.inl (hdr2.1 ho2))]
   rw[if_neg ho2];obtain⟨m0,m1,m2,m3⟩:=hdr2.2 (by simpa using ho2);obtain⟨p4,hp4⟩:∃ p4,p4=p3+(digRun b).length:=⟨_,rfl⟩
   rw[← hp4] at m2 m3;have hb2:b.drop (digRun b).length=l.drop p4:=by rw[hb,List.drop_drop,← hb,hp4]
   rw[hb2];cases hs2:stripL [44,32,114,117,108,101,32,61,32] (l.drop p4) with
   | none=>
    refine⟨fun _=>?_,fun w h r hh=>by cases hh⟩;unfold hdrQ;rw[e0',if_neg (by omega),Int.toNat_natCast,if_neg (by rw[n2];dsimp only;rw[f0'];rw[n2] at n0;dsimp only at n0;omega),n2];dsimp only;rw[f0',Int.toNat_natCast,if_pos];refine .inr ?_;rw[m2];show afterL l (p4:Int) [44,32,114,117,108,101,32,61,32] < 0;rw[(after_strip m3).1 hs2];decide
   | some r=>
    obtain⟨g0,gl0,hr⟩:=(after_strip m3).2 r hs2;obtain⟨p5,hp5⟩:∃ p5,p5=p4+([44,32,114,117,108,101,32,61,32]:List UInt8).length:=⟨_,rfl⟩
    have g0':afterL l (p4:Int) tr=(p5:Int):=by rw[hp5];exact g0
    rw[← hp5] at gl0 hr;refine⟨fun hh=>(by cases hh),fun w h r2 hh=>?_⟩;have hh2:=Option.some.inj hh;injection hh2 with e1 hh2
    injection hh2 with e2 e3
    dsimp only at e1 e2 e3;subst e1 e2 e3;refine⟨min (p5+(lineOf (l.drop p5)).length+1) l.length,?_,Nat.min_le_right _ _,?_,?_⟩
    ·unfold hdrQ;rw[e0',if_neg (by omega),Int.toNat_natCast,if_neg (by rw[n2];dsimp only;rw[f0'];rw[n2] at n0;dsimp only at n0;omega),n2];dsimp only;rw[f0',Int.toNat_natCast,if_neg (by rw[m2];dsimp only;rw[g0'];rw[m2] at m0;dsimp only at m0;omega),m2];dsimp only;rw[g0',Int.toNat_natCast,hr];refine Prod.ext rfl (Prod.ext rfl (Prod.ext rfl ?_));show min ((p5:Int)+((lineOf (l.drop p5)).length:Int)+1) (l.length:Int)=((min (p5+(lineOf (l.drop p5)).length+1) l.length:Nat):Int)
     omega
    ·rw[after_line_drop gl0,← hr];have x2:=strip_app hs2;have x1:=strip_app hs1;have x0:=strip_app hs0;have d1:=digRun_split a;have d2:=digRun_split b;rw[ha2,x1] at d1;rw[hb2,x2] at d2;rw[x0]
     conv=>rhs;rw[d1,d2]
     rw[after_suffix _ _ (by decide),after_suffix _ _ (run_no10 a),after_suffix _ _ (by decide),after_suffix _ _ (run_no10 b),after_suffix _ _ (by decide)]
    ·rw[n2] at n0 n1;rw[m2] at m0 m1;exact⟨n0,m0,n1,m1⟩
end Go.Proofs.YtcfelnhmifkelaaGreatDoor
namespace Go.Proofs.YtcfelnhmifkelaaGreatDoor
open Lib(hid)
open Go.RowKit
set_option maxRecDepth 100000
set_option linter.unusedVariables false
set_option linter.unusedSimpArgs false

theorem cut_len (a sep:List UInt8):(Lib.cut a sep).1.length≤a.length∧(Lib.cut a sep).2.1.length≤a.length:=by
 unfold Lib.cut
 split
 ·refine⟨?_,?_⟩
  ·show (a.take _).length≤_;rw[List.length_take];omega
  ·show (a.drop _).length≤_;rw[List.length_drop];omega
 ·exact⟨Nat.le_refl _,Nat.zero_le _⟩
theorem trim_len (a p:List UInt8):(Lib.trimPrefix a p).length≤a.length:=by
 unfold Lib.trimPrefix
 split
 ·rw[List.length_drop];omega
 ·exact Nat.le_refl _
def GCell (w:World):Prop:=∃ m,w.cell? ⟨0,0,none⟩=some (.int .i64 m)
theorem GCell.ext {w w':World}(h:GCell w)(hb:Below w.heap.size w w'):GCell w':=by
 obtain⟨m,hm⟩:=h;exact⟨m,by rw[hb.cell (World.block_lt_of_cell? _ _ hm)];exact hm⟩
theorem cut_any (l sep:List UInt8)(w:World)(hg:GCell w)(hs:l.length < 4294967281):Calls Tryz.prog 33 #[.string ⟨l.toArray⟩,.string ⟨sep.toArray⟩] w fun e w'=>e=.returned (.tuple #[.string ⟨(Lib.cut l sep).1.toArray⟩,.string ⟨(Lib.cut l sep).2.1.toArray⟩,.bool (Lib.cut l sep).2.2])∧Below w.heap.size w w':=by
 obtain⟨m,hm⟩:=hg;refine (Tryz.strings_Cut ⟨l.toArray⟩ ⟨sep.toArray⟩ m w (by show l.toArray.size < _;simpa using hs) hm).mono ?_;rintro e w' ⟨rfl,n,rfl⟩;exact⟨rfl,⟨rfl,rfl,rfl,Nat.le_refl _,fun _ _=>rfl⟩⟩
theorem num_any (l:List UInt8)(d:Nat)(w:World)(hd:d≤9)(hs:l.length≤2147483648):Calls Tryz.prog 137 #[.string ⟨l.toArray⟩,.int .i64 d] w fun e w'=>e=.returned (.tuple #[.int .i64 (numT d l).1,.bool (numT d l).2])∧Below w.heap.size w w':=
 number_any ⟨l.toArray⟩ d w hd (by show l.toArray.size≤_;simpa using hs)
set_option maxHeartbeats 2000000 in
theorem header_any (l:List UInt8)(w:World)(hg:GCell w)(hs:l.length≤65536) :
  Calls Tryz.prog 104 #[.string ⟨l.toArray⟩] w fun e w'=>e=.returned (.tuple #[.int .i64 (hdrT l).1,.int .i64 (hdrT l).2.1,.string ⟨(hdrT l).2.2.1.toArray⟩,.bool (hdrT l).2.2.2])∧Below w.heap.size w w':=by
 have HP:Hid (Calls Tryz.prog 136 #[.string ⟨l.toArray⟩,.string ⟨#[120,32,61,32]⟩] w fun e w'=>e=.returned (.tuple #[.string ⟨(Lib.trimPrefix l tx).toArray⟩,.bool (Lib.hasPrefix l tx)])∧w'=w):=hid (Tryz.strings_CutPrefix ⟨l.toArray⟩ ⟨tx.toArray⟩ w);have h1:=trim_len l tx;obtain⟨a,ha⟩:∃ a,a=Lib.trimPrefix l tx:=⟨_,rfl⟩
 rw[← ha] at h1 HP;cases hp:Lib.hasPrefix l tx
 ·have HN:Hid (hdrT l=(0,0,[],false)):=hid (by unfold hdrT;rw[if_pos hp]);rw[hp] at HP;clear hp;go_enter Tryz.func104,Tryz.ntmps104;go_wp2_with fail;refine HP.out.mono ?_;rintro e w1 ⟨rfl,hw1⟩;subst hw1;go_wp2;refine bodyPost_ret (v:=.tuple #[.int .i64 0,.int .i64 0,.string ⟨#[]⟩,.bool false]) (by simp[results,Tryz.results104,go_sem]) rfl ?_;rw[HN.out];exact⟨rfl,Below.refl _ _⟩
 have HPT:=hid hp;rw[hp] at HP;have HC:Hid (Calls Tryz.prog 33 #[.string ⟨a.toArray⟩,.string ⟨#[44,32,121,32,61,32]⟩] w fun e w'=>e=.returned (.tuple #[.string ⟨(Lib.cut a ty).1.toArray⟩,.string ⟨(Lib.cut a ty).2.1.toArray⟩,.bool (Lib.cut a ty).2.2])∧Below w.heap.size w w'):=hid (cut_any a ty w hg (by omega));have h2:=cut_len a ty;have HT:Hid (hdrT l=if (Lib.cut a ty).2.2=false then (0,0,[],false) else ((numT 9 (Lib.cut a ty).1).1,(numT 9 (Lib.cut (Lib.cut a ty).2.1 tr).1).1,(Lib.cut (Lib.cut a ty).2.1 tr).2.1,(Lib.cut (Lib.cut a ty).2.1 tr).2.2 && (numT 9 (Lib.cut a ty).1).2 && (numT 9 (Lib.cut (Lib.cut a ty).2.1 tr).1).2)):=hid (by
  unfold hdrT;rw[if_neg (by rw[HPT.out];simp),← ha])
 clear hp ha;obtain⟨c1,hc1⟩:∃ c,c=Lib.cut a ty:=⟨_,rfl⟩
 rw[← hc1] at HC HT h2;clear hc1;obtain⟨u,v,ok⟩:=c1;dsimp only at HC HT h2;cases ok
 ·have HN:Hid (hdrT l=(0,0,[],false)):=hid (by rw[HT.out,if_pos rfl]);go_enter Tryz.func104,Tryz.ntmps104;go_wp2_with fail;refine HP.out.mono ?_;rintro e w1 ⟨rfl,hw1⟩;have hw2:=hw1.symm;clear hw1;subst hw2;go_wp2_with fail;refine HC.out.mono ?_;rintro e w1 ⟨rfl,hb1⟩;have HB:=hid hb1;clear hb1;go_wp2;refine bodyPost_ret (v:=.tuple #[.int .i64 0,.int .i64 0,.string ⟨#[]⟩,.bool false]) (by simp[results,Tryz.results104,go_sem]) rfl ?_;rw[HN.out];exact⟨rfl,HB.out⟩
 rw[if_neg (by simp)] at HT;have HC2:Hid (∀ w',Below w.heap.size w w'→Calls Tryz.prog 33 #[.string ⟨v.toArray⟩,.string ⟨#[44,32,114,117,108,101,32,61,32]⟩] w' fun e w''=>e=.returned (.tuple #[.string ⟨(Lib.cut v tr).1.toArray⟩,.string ⟨(Lib.cut v tr).2.1.toArray⟩,.bool (Lib.cut v tr).2.2])∧Below w'.heap.size w' w''):=hid (fun w' hb=>cut_any v tr w' (hg.ext hb) (by omega));have h3:=cut_len v tr;obtain⟨c2,hc2⟩:∃ c,c=Lib.cut v tr:=⟨_,rfl⟩
 rw[← hc2] at HC2 HT h3;clear hc2;obtain⟨x,r,ok⟩:=c2;dsimp only at HC2 HT h3;have HN1:=hid (fun w'=>num_any u 9 w' (by omega) (by omega));have HN2:=hid (fun w'=>num_any x 9 w' (by omega) (by omega));obtain⟨n1,hn1⟩:∃ n,n=numT 9 u:=⟨_,rfl⟩
 obtain⟨n2,hn2⟩:∃ n,n=numT 9 x:=⟨_,rfl⟩
 rw[← hn1] at HN1 HT;rw[← hn2] at HN2 HT;clear hn1 hn2 h1 h2 h3;obtain⟨n1,b1⟩:=n1;obtain⟨n2,b2⟩:=n2;dsimp only at HN1 HN2 HT;go_enter Tryz.func104,Tryz.ntmps104;go_wp2_with fail;refine HP.out.mono ?_;rintro e w1 ⟨rfl,hw1⟩;have hw2:=hw1.symm;clear hw1;subst hw2;go_wp2_with fail;refine HC.out.mono ?_;rintro e w1 ⟨rfl,hb1⟩;have HB1:=hid hb1;clear hb1;have HD2:=hid (HC2.out w1 HB1.out);go_wp2_with fail;refine HD2.out.mono ?_;rintro e w2 ⟨rfl,hb2⟩;have HB2:=hid (HB1.out.trans (hb2.mono HB1.out.size));clear hb2;have HD3:Hid (Calls Tryz.prog 137 #[.string ⟨u.toArray⟩,.int .i64 9] w2 fun e w'=>e=.returned (.tuple #[.int .i64 n1,.bool b1])∧Below w2.heap.size w2 w'):=hid (HN1.out w2);go_wp2_with fail;refine HD3.out.mono ?_;rintro e w3 ⟨rfl,hb3⟩;have HB3:=hid (HB2.out.trans (hb3.mono HB2.out.size));clear hb3;have HD4:Hid (Calls Tryz.prog 137 #[.string ⟨x.toArray⟩,.int .i64 9] w3 fun e w'=>e=.returned (.tuple #[.int .i64 n2,.bool b2])∧Below w3.heap.size w3 w'):=hid (HN2.out w3);go_wp2_with fail;refine HD4.out.mono ?_;rintro e w4 ⟨rfl,hb4⟩;have HB4:=hid (HB3.out.trans (hb4.mono HB3.out.size));clear hb4;cases ok <;> cases b1 <;> cases b2
 ·go_wp2;refine bodyPost_ret (v:=.tuple #[.int .i64 n1,.int .i64 n2,.string ⟨r.toArray⟩,.bool false]) (by simp[results,Tryz.results104,go_sem]) rfl ?_;rw[HT.out];exact⟨rfl,HB4.out⟩
 ·go_wp2;refine bodyPost_ret (v:=.tuple #[.int .i64 n1,.int .i64 n2,.string ⟨r.toArray⟩,.bool false]) (by simp[results,Tryz.results104,go_sem]) rfl ?_;rw[HT.out];exact⟨rfl,HB4.out⟩
 ·go_wp2;refine bodyPost_ret (v:=.tuple #[.int .i64 n1,.int .i64 n2,.string ⟨r.toArray⟩,.bool false]) (by simp[results,Tryz.results104,go_sem]) rfl ?_;rw[HT.out];exact⟨rfl,HB4.out⟩
 ·go_wp2;refine bodyPost_ret (v:=.tuple #[.int .i64 n1,.int .i64 n2,.string ⟨r.toArray⟩,.bool false]) (by simp[results,Tryz.results104,go_sem]) rfl ?_;rw[HT.out];exact⟨rfl,HB4.out⟩
 ·go_wp2;refine bodyPost_ret (v:=.tuple #[.int .i64 n1,.int .i64 n2,.string ⟨r.toArray⟩,.bool false]) (by simp[results,Tryz.results104,go_sem]) rfl ?_;rw[HT.out];exact⟨rfl,HB4.out⟩
 ·go_wp2;refine bodyPost_ret (v:=.tuple #[.int .i64 n1,.int .i64 n2,.string ⟨r.toArray⟩,.bool false]) (by simp[results,Tryz.results104,go_sem]) rfl ?_;rw[HT.out];exact⟨rfl,HB4.out⟩
 ·go_wp2;refine bodyPost_ret (v:=.tuple #[.int .i64 n1,.int .i64 n2,.string ⟨r.toArray⟩,.bool false]) (by simp[results,Tryz.results104,go_sem]) rfl ?_;rw[HT.out];exact⟨rfl,HB4.out⟩
 ·go_wp2;refine bodyPost_ret (v:=.tuple #[.int .i64 n1,.int .i64 n2,.string ⟨r.toArray⟩,.bool true]) (by simp[results,Tryz.results104,go_sem]) rfl ?_;rw[HT.out];exact⟨rfl,HB4.out⟩
theorem afterL_bd (l t:List UInt8)(p:Int):-1≤afterL l p t∧afterL l p t≤l.length:=by
 unfold afterL
 split <;> omega
theorem numQ_bd {l:List UInt8}{p m:Nat}(hp:p≤l.length)(hm:m≤9):0≤(numQ m l p).2∧(numQ m l p).2≤l.length∧-1≤(numQ m l p).1∧(numQ m l p).1 < 10000000000:=by
 unfold numQ;have h:=digRun_le (l.drop p);rw[List.length_drop] at h
 split
 ·rename_i ho;unfold okN at ho;simp only[Bool.and_eq_true,decide_eq_true_eq] at ho;have:=numL_bd (digRun_all (l.drop p)) (by omega);dsimp only;omega
 ·dsimp only;omega
theorem lineOf_yes {l:List UInt8}{j:Nat}(h:j < l.length)(hd:¬ l[j]=10):lineOf (l.drop j)=l[j] :: lineOf (l.drop (j+1)):=by
 rw[List.drop_eq_getElem_cons h];unfold lineOf;rw[List.takeWhile_cons,if_pos (by simpa using hd)]
theorem lineOf_no {l:List UInt8}{j:Nat}(h:j < l.length)(hd:l[j]=10):lineOf (l.drop j)=[]:=by
 rw[List.drop_eq_getElem_cons h];unfold lineOf;rw[List.takeWhile_cons,if_neg (by rw[hd];decide)]
theorem extract_line {s:ByteArray}{l:List UInt8}(hl:l=s.data.toList){c e:Nat}(h:(lineOf (l.drop c)).length=e - c):s.extract c e=⟨(lineOf (l.drop c)).toArray⟩:=by
 have h1:(s.extract c e).data.toList=lineOf (l.drop c):=by
  have h2:=Lib.extract_toList s c e;rw[ByteArray.toList_eq] at h2;rw[h2,← hl,← h];have h3:=line_split (l.drop c);have h4:(l.drop c).take (lineOf (l.drop c)).length=(lineOf (l.drop c) ++ (l.drop c).drop (lineOf (l.drop c)).length).take (lineOf (l.drop c)).length:=by rw[← h3]
  rw[h4,List.take_left]
 have h5:s.extract c e=⟨⟨(s.extract c e).data.toList⟩⟩:=rfl;rw[h5,h1]
structure RhJ (w0:World)(wv:Int)(hv:Int)(s:ByteArray)(cp:Nat)(ep:Nat)(r:List UInt8)(q:Int)(b0 b1 b2 b3 b4 b5 b6 b7 b8 b9 b10 b11 b12 b13 b14:Bool)(v61 v62 v63 v64 v65 v66 v67 v68 v69 v70 v71 v4 v5 v6 v7:Value)(w:World):Prop where
 below:Below w0.heap.size w0 w
 h0:b0=true→v61=.int .i64 wv
 h1:b1=true→v62=.int .i64 hv
 h2:b2=true→v63=.string s
 h3:b3=true→v64=.int .i64 cp
 h4:b4=true→v65=.int .i64 ep
 h5:b5=true→v66=.string ⟨r.toArray⟩
 h6:b6=true→v67=.int .i64 ep
 h7:b7=true→v68=.int .i64 ((ep:Int)+1)
 h8:b8=true→v69=.string s
 h9:b9=true→v70=.int .i64 s.size
 h10:b10=true→v71=.int .i64 q
 h11:b11=true→v4=.int .i64 wv
 h12:b12=true→v5=.int .i64 hv
 h13:b13=true→v6=.string ⟨r.toArray⟩
 h14:b14=true→v7=.int .i64 q
set_option maxHeartbeats 8000000 in
theorem rheader_any (s:ByteArray)(p:Nat)(w:World)(hp:p≤s.size)(hs:s.size≤2147483647) :
  Calls Tryz.prog 106 #[.string s,.int .i64 p] w fun e w'=>e=.returned (.tuple #[.int .i64 (hdrQ s.data.toList p).1,.int .i64 (hdrQ s.data.toList p).2.1,.string ⟨(hdrQ s.data.toList p).2.2.1.toArray⟩,.int .i64 (hdrQ s.data.toList p).2.2.2])∧Below w.heap.size w w':=by
 have H1:Hid (Calls Tryz.prog 139 #[.string s,.int .i64 p,.string ⟨#[120,32,61,32]⟩] w fun e w'=>e=.returned (.int .i64 (afterL s.data.toList p tx))∧w'=w):=hid (after_any s ⟨tx.toArray⟩ p w (by omega) (by decide) (by omega) (by omega));obtain⟨l,hl⟩:∃ l,l=s.data.toList:=⟨_,rfl⟩
 have hlen:l.length=s.size:=by rw[hl];rfl
 have hgb:∀ j (h:j < s.size) (h':j < l.length),l[j]=s[j]:=by subst hl;exact get_byte s
 have HG:=hid (And.intro hlen hgb);have HL:=hid hl;clear hgb;rw[← hl] at H1;rw[← hl];have hb1:=afterL_bd l tx p;have HT:Hid (hdrQ l p=if afterL l p tx < 0 then (0,0,[],-1)
  else if (numQ 9 l (afterL l p tx).toNat).1 < 0∨afterL l (numQ 9 l (afterL l p tx).toNat).2 ty < 0 then (0,0,[],-1)
  else if (numQ 9 l (afterL l (numQ 9 l (afterL l p tx).toNat).2 ty).toNat).1 < 0∨afterL l (numQ 9 l (afterL l (numQ 9 l (afterL l p tx).toNat).2 ty).toNat).2 tr < 0 then (0,0,[],-1)
  else ((numQ 9 l (afterL l p tx).toNat).1,(numQ 9 l (afterL l (numQ 9 l (afterL l p tx).toNat).2 ty).toNat).1,
   lineOf (l.drop (afterL l (numQ 9 l (afterL l (numQ 9 l (afterL l p tx).toNat).2 ty).toNat).2 tr).toNat),
   min (afterL l (numQ 9 l (afterL l (numQ 9 l (afterL l p tx).toNat).2 ty).toNat).2 tr+(lineOf (l.drop (afterL l (numQ 9 l (afterL l (numQ 9 l (afterL l p tx).toNat).2 ty).toNat).2 tr).toNat)).length+1) l.length)):=hid (by rw[hdrQ])
 clear hl;obtain⟨a1,ha1⟩:∃ a,a=afterL l p tx:=⟨_,rfl⟩
 rw[← ha1] at H1 hb1 HT;clear ha1;have ENTER:True:=trivial;by_cases h1:a1 < 0
 ·have HN:Hid (hdrQ l p=(0,0,[],-1)):=hid (by rw[HT.out,if_pos h1]);have d1:decide (a1 < 0)=true:=decide_eq_true h1;go_enter Tryz.func106,Tryz.ntmps106;go_wp2_with fail;refine H1.out.mono ?_;rintro e w1 ⟨rfl,hw1⟩;have hw2:=hw1.symm;clear hw1;subst hw2;go_wp2;refine bodyPost_ret (v:=.tuple #[.int .i64 0,.int .i64 0,.string ⟨#[]⟩,.int .i64 (-1)]) (by simp[results,Tryz.results106,go_sem]) rfl ?_;rw[HN.out];exact⟨rfl,Below.refl _ _⟩
 rw[if_neg h1] at HT;have d1:decide (a1 < 0)=false:=decide_eq_false h1;obtain⟨p1,rfl⟩:∃ n:Nat,a1=(n:Int):=⟨a1.toNat,by omega⟩
 rw[Int.toNat_natCast] at HT;have HN1:Hid (Calls Tryz.prog 108 #[.string s,.int .i64 p1,.int .i64 9] w fun e w'=>e=.returned (.tuple #[.int .i64 (numQ 9 l p1).1,.int .i64 (numQ 9 l p1).2])∧w'=w):=hid (by rw[HL.out];exact numQ_any s p1 9 w (by omega) (by omega) (by omega));have hn1:=numQ_bd (l:=l) (p:=p1) (m:=9) (by omega) (by omega);obtain⟨n1,hq1⟩:∃ n,n=numQ 9 l p1:=⟨_,rfl⟩
 rw[← hq1] at HN1 HT hn1;clear hq1;obtain⟨v1,q1⟩:=n1;dsimp only at HN1 HT hn1;have H2:Hid (Calls Tryz.prog 139 #[.string s,.int .i64 q1,.string ⟨#[44,32,121,32,61,32]⟩] w fun e w'=>e=.returned (.int .i64 (afterL l q1 ty))∧w'=w):=hid (by rw[HL.out];exact after_any s ⟨ty.toArray⟩ q1 w (by omega) (by decide) (by omega) (by omega));have hb2:=afterL_bd l ty q1;obtain⟨a2,ha2⟩:∃ a,a=afterL l q1 ty:=⟨_,rfl⟩
 rw[← ha2] at H2 hb2 HT;clear ha2;by_cases h2:v1 < 0
 ·have HN:Hid (hdrQ l p=(0,0,[],-1)):=hid (by rw[HT.out,if_pos (.inl h2)]);have d2:decide (v1 < 0)=true:=decide_eq_true h2;go_enter Tryz.func106,Tryz.ntmps106;go_wp2_with fail;refine H1.out.mono ?_;rintro e w1 ⟨rfl,hw1⟩;have hw2:=hw1.symm;clear hw1;subst hw2;go_wp2_with fail;refine HN1.out.mono ?_;rintro e w1 ⟨rfl,hw1⟩;have hw2:=hw1.symm;clear hw1;subst hw2;go_wp2_with fail;refine H2.out.mono ?_;rintro e w1 ⟨rfl,hw1⟩;have hw2:=hw1.symm;clear hw1;subst hw2;go_wp2;refine bodyPost_ret (v:=.tuple #[.int .i64 0,.int .i64 0,.string ⟨#[]⟩,.int .i64 (-1)]) (by simp[results,Tryz.results106,go_sem]) rfl ?_;rw[HN.out];exact⟨rfl,Below.refl _ _⟩
 have d2:decide (v1 < 0)=false:=decide_eq_false h2;by_cases h3:a2 < 0
 ·have HN:Hid (hdrQ l p=(0,0,[],-1)):=hid (by rw[HT.out,if_pos (.inr h3)]);have d3:decide (a2 < 0)=true:=decide_eq_true h3;go_enter Tryz.func106,Tryz.ntmps106;go_wp2_with fail;refine H1.out.mono ?_;rintro e w1 ⟨rfl,hw1⟩;have hw2:=hw1.symm;clear hw1;subst hw2;go_wp2_with fail;refine HN1.out.mono ?_;rintro e w1 ⟨rfl,hw1⟩;have hw2:=hw1.symm;clear hw1;subst hw2;go_wp2_with fail;refine H2.out.mono ?_;rintro e w1 ⟨rfl,hw1⟩;have hw2:=hw1.symm;clear hw1;subst hw2;go_wp2;refine bodyPost_ret (v:=.tuple #[.int .i64 0,.int .i64 0,.string ⟨#[]⟩,.int .i64 (-1)]) (by simp[results,Tryz.results106,go_sem]) rfl ?_;rw[HN.out];exact⟨rfl,Below.refl _ _⟩
 have d3:decide (a2 < 0)=false:=decide_eq_false h3;rw[if_neg (by omega)] at HT;obtain⟨p2,rfl⟩:∃ n:Nat,a2=(n:Int):=⟨a2.toNat,by omega⟩
 rw[Int.toNat_natCast] at HT;have HN2:Hid (Calls Tryz.prog 108 #[.string s,.int .i64 p2,.int .i64 9] w fun e w'=>e=.returned (.tuple #[.int .i64 (numQ 9 l p2).1,.int .i64 (numQ 9 l p2).2])∧w'=w):=hid (by rw[HL.out];exact numQ_any s p2 9 w (by omega) (by omega) (by omega));have hn2:=numQ_bd (l:=l) (p:=p2) (m:=9) (by omega) (by omega);obtain⟨n2,hq2⟩:∃ n,n=numQ 9 l p2:=⟨_,rfl⟩
 rw[← hq2] at HN2 HT hn2;clear hq2;obtain⟨v2,q2⟩:=n2;dsimp only at HN2 HT hn2;have H3:Hid (Calls Tryz.prog 139 #[.string s,.int .i64 q2,.string ⟨#[44,32,114,117,108,101,32,61,32]⟩] w fun e w'=>e=.returned (.int .i64 (afterL l q2 tr))∧w'=w):=hid (by rw[HL.out];exact after_any s ⟨tr.toArray⟩ q2 w (by omega) (by decide) (by omega) (by omega));have hb3:=afterL_bd l tr q2;obtain⟨a3,ha3⟩:∃ a,a=afterL l q2 tr:=⟨_,rfl⟩
 rw[← ha3] at H3 hb3 HT;clear ha3;by_cases h4:v2 < 0
 ·have HN:Hid (hdrQ l p=(0,0,[],-1)):=hid (by rw[HT.out,if_pos (.inl h4)]);have d4:decide (v2 < 0)=true:=decide_eq_true h4;go_enter Tryz.func106,Tryz.ntmps106;go_wp2_with fail;refine H1.out.mono ?_;rintro e w1 ⟨rfl,hw1⟩;have hw2:=hw1.symm;clear hw1;subst hw2;go_wp2_with fail;refine HN1.out.mono ?_;rintro e w1 ⟨rfl,hw1⟩;have hw2:=hw1.symm;clear hw1;subst hw2;go_wp2_with fail;refine H2.out.mono ?_;rintro e w1 ⟨rfl,hw1⟩;have hw2:=hw1.symm;clear hw1;subst hw2;go_wp2_with fail;refine HN2.out.mono ?_;rintro e w1 ⟨rfl,hw1⟩;have hw2:=hw1.symm;clear hw1;subst hw2;go_wp2_with fail;refine H3.out.mono ?_;rintro e w1 ⟨rfl,hw1⟩;have hw2:=hw1.symm;clear hw1;subst hw2;go_wp2;refine bodyPost_ret (v:=.tuple #[.int .i64 0,.int .i64 0,.string ⟨#[]⟩,.int .i64 (-1)]) (by simp[results,Tryz.results106,go_sem]) rfl ?_;rw[HN.out];exact⟨rfl,Below.refl _ _⟩
 have d4:decide (v2 < 0)=false:=decide_eq_false h4;by_cases h5:a3 < 0
 ·have HN:Hid (hdrQ l p=(0,0,[],-1)):=hid (by rw[HT.out,if_pos (.inr h5)]);have d5:decide (a3 < 0)=true:=decide_eq_true h5;go_enter Tryz.func106,Tryz.ntmps106;go_wp2_with fail;refine H1.out.mono ?_;rintro e w1 ⟨rfl,hw1⟩;have hw2:=hw1.symm;clear hw1;subst hw2;go_wp2_with fail;refine HN1.out.mono ?_;rintro e w1 ⟨rfl,hw1⟩;have hw2:=hw1.symm;clear hw1;subst hw2;go_wp2_with fail;refine H2.out.mono ?_;rintro e w1 ⟨rfl,hw1⟩;have hw2:=hw1.symm;clear hw1;subst hw2;go_wp2_with fail;refine HN2.out.mono ?_;rintro e w1 ⟨rfl,hw1⟩;have hw2:=hw1.symm;clear hw1;subst hw2;go_wp2_with fail;refine H3.out.mono ?_;rintro e w1 ⟨rfl,hw1⟩;have hw2:=hw1.symm;clear hw1;subst hw2;go_wp2;refine bodyPost_ret (v:=.tuple #[.int .i64 0,.int .i64 0,.string ⟨#[]⟩,.int .i64 (-1)]) (by simp[results,Tryz.results106,go_sem]) rfl ?_;rw[HN.out];exact⟨rfl,Below.refl _ _⟩
 have d5:decide (a3 < 0)=false:=decide_eq_false h5;rw[if_neg (by omega)] at HT;obtain⟨p3,rfl⟩:∃ n:Nat,a3=(n:Int):=⟨a3.toNat,by omega⟩
 rw[Int.toNat_natCast] at HT;have hp3:p3≤s.size:=by omega
 clear hb1 hb2 hb3 hn1 hn2 h1 h2 h3 h4 h5;go_enter Tryz.func106,Tryz.ntmps106;go_wp2_with fail;refine H1.out.mono ?_;rintro e w1 ⟨rfl,hw1⟩;have hw2:=hw1.symm;clear hw1;subst hw2;go_wp2_with fail;refine HN1.out.mono ?_;rintro e w1 ⟨rfl,hw1⟩;have hw2:=hw1.symm;clear hw1;subst hw2;go_wp2_with fail;refine H2.out.mono ?_;rintro e w1 ⟨rfl,hw1⟩;have hw2:=hw1.symm;clear hw1;subst hw2;go_wp2_with fail;refine HN2.out.mono ?_;rintro e w1 ⟨rfl,hw1⟩;have hw2:=hw1.symm;clear hw1;subst hw2;go_wp2_with fail;refine H3.out.mono ?_;rintro e w1 ⟨rfl,hw1⟩;have hw2:=hw1.symm;clear hw1;subst hw2;go_wp2;go_loopw [12] (fun e wr=>∃ (k:Nat) (xs:List UInt8),p3≤k∧k≤s.size∧e=.int .i64 k∧wr=w∧xs.length+p3=k∧Hid (lineOf (l.drop p3)=xs ++ lineOf (l.drop k))) (fun e _=>s.size - (intOf e).toNat)
 case atStart=>exact⟨p3,[],Nat.le_refl _,hp3,rfl,rfl,by simp,hid rfl⟩
 case round=>
  obtain⟨k,xs,hk0,hk,rfl,hw,hxk,HX0⟩:=hrel;have hw2:=hw.symm;clear hw;subst hw2;by_cases hlt:k < s.size
  ·have hlt':k < l.length:=by rw[HG.out.1];exact hlt
   by_cases hc:s[k]=10
   ·have e1:((s[k].toNat:Int) != 10)=false:=by rw[hc];rfl
    have HX1:Hid (lineOf (l.drop p3)=xs):=hid (by rw[HX0.out,lineOf_no hlt' (by rw[HG.out.2 k hlt hlt'];exact hc),List.append_nil]);clear hc;have HX:Hid (s.extract p3 k=⟨(lineOf (l.drop p3)).toArray⟩):=hid (extract_line HL.out (by rw[HX1.out];omega));have HB:Hid (p3≤k∧k≤s.size∧s.size≤2147483647):=hid ⟨hk0,hk,hs⟩;have HT2:Hid (hdrQ l p=(v1,v2,lineOf (l.drop p3),min ((k:Int)+1) (s.size:Int))):=hid (by
     rw[HT.out,HG.out.1];refine Prod.ext rfl (Prod.ext rfl (Prod.ext rfl ?_));show min ((p3:Int)+((lineOf (l.drop p3)).length:Int)+1) _=_;rw[HX1.out,show (p3:Int)+(xs.length:Int)=k by omega])
    obtain⟨r,hr⟩:∃ r,r=lineOf (l.drop p3):=⟨_,rfl⟩
    obtain⟨q,hq⟩:∃ q,q=min ((k:Int)+1) (s.size:Int):=⟨_,rfl⟩
    rw[← hr,← hq] at HT2;rw[← hr] at HX;have HQ:=hid hq.symm;clear hr hq;go_upto_region 15 with fail
    refine wp_region_J (by kernel_rfl) (fun listed act w'=>∃ b0 b1 b2 b3 b4 b5 b6 b7 b8 b9 b10 b11 b12 b13 b14 v61 v62 v63 v64 v65 v66 v67 v68 v69 v70 v71 v4 v5 v6 v7,listed=#[b0,b1,b2,b3,b4,b5,b6,b7,b8,b9,b10,b11,b12,b13,b14]∧act=Act.mk #[.string s,.int .i64 p1,undef,undef,v4,v5,v6,v7,.int .i64 v1,.int .i64 p2,.int .i64 v2,.int .i64 p3,.int .i64 k,.string s,.int .i64 p,.int .i64 p1,.int .i64 p1,.bool false,.tuple #[.int .i64 v1,.int .i64 q1],.string s,.int .i64 p1,.tuple #[.int .i64 v1,.int .i64 q1],.int .i64 v1,.int .i64 q1,.string s,.int .i64 q1,.int .i64 p2,.int .i64 v1,.bool false,.bool false,.int .i64 p2,.bool false,.bool false,.tuple #[.int .i64 v2,.int .i64 q2],.string s,.int .i64 p2,.tuple #[.int .i64 v2,.int .i64 q2],.int .i64 v2,.int .i64 q2,.string s,.int .i64 q2,.int .i64 p3,.int .i64 v2,.bool false,.bool false,.int .i64 p3,.bool false,.bool false,.int .i64 p3,.int .i64 k,.string s,.int .i64 s.size,.bool true,.bool true,.string s,.int .i64 k,.int .u8 s[k].toNat,.bool false,.bool false,u59,u60,v61,v62,v63,v64,v65,v66,v67,v68,v69,v70,v71] []∧RhJ w v1 v2 s p3 k r q b0 b1 b2 b3 b4 b5 b6 b7 b8 b9 b10 b11 b12 b13 b14 v61 v62 v63 v64 v65 v66 v67 v68 v69 v70 v71 v4 v5 v6 v7 w') ?_ ?_ ?_
    ·exact (e_8 (e_8 (e_8 (e_4 (e_2 ⟨rfl,rfl,(by constructor;(case below=>exact (Below.refl _ w).drew);all_goals simp)⟩)))))
    ·rintro i listed act w' hi ⟨b0,b1,b2,b3,b4,b5,b6,b7,b8,b9,b10,b11,b12,b13,b14,v61,v62,v63,v64,v65,v66,v67,v68,v69,v70,v71,v4,v5,v6,v7,rfl,rfl,H⟩;have hi16:i < 15:=by
      obtain⟨-,o,ho,-⟩:=mem_ready.1 hi;exact (Array.getElem?_eq_some_iff.1 ho).1
     obtain rfl | rfl | rfl | rfl | rfl | rfl | rfl | rfl | rfl | rfl | rfl | rfl | rfl | rfl | rfl:i=0∨i=1∨i=2∨i=3∨i=4∨i=5∨i=6∨i=7∨i=8∨i=9∨i=10∨i=11∨i=12∨i=13∨i=14:=by omega
     all_goals simp[mem_ready,Region.binds] at hi
     ·refine wpOp_hidden rfl fun K hK=>?_;go_wp2;refine OnlyN.mk (hK.out _ _ (e_8 (e_8 (e_8 (e_4 (e_2 ⟨rfl,rfl,{ H with h0:=fun _=>rfl }⟩))))))
     ·refine wpOp_hidden rfl fun K hK=>?_;go_wp2;refine OnlyN.mk (hK.out _ _ (e_8 (e_8 (e_8 (e_4 (e_2 ⟨rfl,rfl,{ H with h1:=fun _=>rfl }⟩))))))
     ·refine wpOp_hidden rfl fun K hK=>?_;go_wp2;refine OnlyN.mk (hK.out _ _ (e_8 (e_8 (e_8 (e_4 (e_2 ⟨rfl,rfl,{ H with h2:=fun _=>rfl }⟩))))))
     ·refine wpOp_hidden rfl fun K hK=>?_;go_wp2;refine OnlyN.mk (hK.out _ _ (e_8 (e_8 (e_8 (e_4 (e_2 ⟨rfl,rfl,{ H with h3:=fun _=>rfl }⟩))))))
     ·refine wpOp_hidden rfl fun K hK=>?_;go_wp2;refine OnlyN.mk (hK.out _ _ (e_8 (e_8 (e_8 (e_4 (e_2 ⟨rfl,rfl,{ H with h4:=fun _=>rfl }⟩))))))
     ·obtain rfl:=H.h2 (by simp[hi]);obtain rfl:=H.h3 (by simp[hi]);obtain rfl:=H.h4 (by simp[hi]);have hz1:p3≤k:=HB.out.1;have hz2:k≤s.size:=HB.out.2.1;refine wpOp_hidden rfl fun K hK=>?_;go_wp2;refine OnlyN.mk (hK.out _ _ (e_8 (e_8 (e_8 (e_4 (e_2 ⟨rfl,rfl,{ H with h5:=fun _=>by rw[HX.out] }⟩))))))
     ·refine wpOp_hidden rfl fun K hK=>?_;go_wp2;refine OnlyN.mk (hK.out _ _ (e_8 (e_8 (e_8 (e_4 (e_2 ⟨rfl,rfl,{ H with h6:=fun _=>rfl }⟩))))))
     ·obtain rfl:=H.h6 (by simp[hi]);have hwk:wrap64 ((k:Int)+1)=(k:Int)+1:=by have:=HB.out;unfold wrap64;omega
      refine wpOp_hidden rfl fun K hK=>?_;go_wp2;refine OnlyN.mk (hK.out _ _ (e_8 (e_8 (e_8 (e_4 (e_2 ⟨rfl,rfl,{ H with h7:=fun _=>rfl }⟩))))))
     ·refine wpOp_hidden rfl fun K hK=>?_;go_wp2;refine OnlyN.mk (hK.out _ _ (e_8 (e_8 (e_8 (e_4 (e_2 ⟨rfl,rfl,{ H with h8:=fun _=>rfl }⟩))))))
     ·obtain rfl:=H.h8 (by simp[hi]);refine wpOp_hidden rfl fun K hK=>?_;go_wp2;refine OnlyN.mk (hK.out _ _ (e_8 (e_8 (e_8 (e_4 (e_2 ⟨rfl,rfl,{ H with h9:=fun _=>rfl }⟩))))))
     ·obtain rfl:=H.h7 (by simp[hi]);obtain rfl:=H.h9 (by simp[hi]);refine wpOp_hidden rfl fun K hK=>?_;go_wp2;refine OnlyN.mk (hK.out _ _ (e_8 (e_8 (e_8 (e_4 (e_2 ⟨rfl,rfl,{ H with h10:=fun _=>by rw[HQ.out] }⟩))))))
     ·obtain rfl:=H.h0 (by simp[hi]);refine wpOp_hidden rfl fun K hK=>?_;go_wp2;refine OnlyN.mk (hK.out _ _ (e_8 (e_8 (e_8 (e_4 (e_2 ⟨rfl,rfl,{ H with h11:=fun _=>rfl }⟩))))))
     ·obtain rfl:=H.h1 (by simp[hi]);refine wpOp_hidden rfl fun K hK=>?_;go_wp2;refine OnlyN.mk (hK.out _ _ (e_8 (e_8 (e_8 (e_4 (e_2 ⟨rfl,rfl,{ H with h12:=fun _=>rfl }⟩))))))
     ·obtain rfl:=H.h5 (by simp[hi]);refine wpOp_hidden rfl fun K hK=>?_;go_wp2;refine OnlyN.mk (hK.out _ _ (e_8 (e_8 (e_8 (e_4 (e_2 ⟨rfl,rfl,{ H with h13:=fun _=>rfl }⟩))))))
     ·obtain rfl:=H.h10 (by simp[hi]);refine wpOp_hidden rfl fun K hK=>?_;go_wp2;refine OnlyN.mk (hK.out _ _ (e_8 (e_8 (e_8 (e_4 (e_2 ⟨rfl,rfl,{ H with h14:=fun _=>rfl }⟩))))))
    ·rintro listed act w' hr ⟨b0,b1,b2,b3,b4,b5,b6,b7,b8,b9,b10,b11,b12,b13,b14,v61,v62,v63,v64,v65,v66,v67,v68,v69,v70,v71,v4,v5,v6,v7,rfl,rfl,H⟩;have hn:=List.eq_nil_iff_forall_not_mem.1 hr;have r0:=hn 0;simp[mem_ready,Region.binds] at r0;subst r0;have r1:=hn 1;simp[mem_ready,Region.binds] at r1;subst r1;have r2:=hn 2;simp[mem_ready,Region.binds] at r2;subst r2;have r3:=hn 3;simp[mem_ready,Region.binds] at r3;subst r3;have r4:=hn 4;simp[mem_ready,Region.binds] at r4;subst r4;have r5:=hn 5;simp[mem_ready,Region.binds] at r5;subst r5;have r6:=hn 6;simp[mem_ready,Region.binds] at r6;subst r6;have r7:=hn 7;simp[mem_ready,Region.binds] at r7;subst r7;have r8:=hn 8;simp[mem_ready,Region.binds] at r8;subst r8;have r9:=hn 9;simp[mem_ready,Region.binds] at r9;subst r9;have r10:=hn 10;simp[mem_ready,Region.binds] at r10;subst r10;have r11:=hn 11;simp[mem_ready,Region.binds] at r11;subst r11;have r12:=hn 12;simp[mem_ready,Region.binds] at r12;subst r12;have r13:=hn 13;simp[mem_ready,Region.binds] at r13;subst r13;have r14:=hn 14;simp[mem_ready,Region.binds] at r14;subst r14;obtain rfl:=H.h11 rfl;obtain rfl:=H.h12 rfl;obtain rfl:=H.h13 rfl;obtain rfl:=H.h14 rfl;go_wp2;refine bodyPost_ret (v:=.tuple #[.int .i64 v1,.int .i64 v2,.string ⟨r.toArray⟩,.int .i64 q]) (by simp[results,Tryz.results106,go_sem]) rfl ?_;rw[HT2.out];exact⟨rfl,H.below⟩
   ·have e1:((s[k].toNat:Int) != 10)=true:=by
     simp only[bne_iff_ne,ne_eq];intro h;exact hc (UInt8.toNat_inj.1 (by have:(10:UInt8).toNat=10:=rfl;omega))
    have HN:Hid (lineOf (l.drop p3)=(xs ++ [l[k]]) ++ lineOf (l.drop (k+1))):=hid (by
     rw[HX0.out,lineOf_yes hlt' (by rw[HG.out.2 k hlt hlt'];exact hc),List.append_assoc];rfl)
    clear hc;go_wp2;go_roundw
    case rel=>exact⟨k+1,xs ++ [l[k]],by omega,by omega,by go_num,(by first | rfl | trivial),by simp;omega,HN⟩
    case measure=>simp[intOf];omega
  ·have HX1:Hid (lineOf (l.drop p3)=xs):=hid (by
    rw[HX0.out,List.drop_of_length_le (by rw[HG.out.1];omega)];simp[lineOf])
   have HX:Hid (s.extract p3 k=⟨(lineOf (l.drop p3)).toArray⟩):=hid (extract_line HL.out (by rw[HX1.out];omega));have HB:Hid (p3≤k∧k≤s.size∧s.size≤2147483647):=hid ⟨hk0,hk,hs⟩;have HT2:Hid (hdrQ l p=(v1,v2,lineOf (l.drop p3),min ((k:Int)+1) (s.size:Int))):=hid (by
    rw[HT.out,HG.out.1];refine Prod.ext rfl (Prod.ext rfl (Prod.ext rfl ?_));show min ((p3:Int)+((lineOf (l.drop p3)).length:Int)+1) _=_;rw[HX1.out,show (p3:Int)+(xs.length:Int)=k by omega])
   obtain⟨r,hr⟩:∃ r,r=lineOf (l.drop p3):=⟨_,rfl⟩
   obtain⟨q,hq⟩:∃ q,q=min ((k:Int)+1) (s.size:Int):=⟨_,rfl⟩
   rw[← hr,← hq] at HT2;rw[← hr] at HX;have HQ:=hid hq.symm;clear hr hq;go_upto_region 15 with fail
   refine wp_region_J (by kernel_rfl) (fun listed act w'=>∃ b0 b1 b2 b3 b4 b5 b6 b7 b8 b9 b10 b11 b12 b13 b14 v61 v62 v63 v64 v65 v66 v67 v68 v69 v70 v71 v4 v5 v6 v7,listed=#[b0,b1,b2,b3,b4,b5,b6,b7,b8,b9,b10,b11,b12,b13,b14]∧act=Act.mk #[.string s,.int .i64 p1,undef,undef,v4,v5,v6,v7,.int .i64 v1,.int .i64 p2,.int .i64 v2,.int .i64 p3,.int .i64 k,.string s,.int .i64 p,.int .i64 p1,.int .i64 p1,.bool false,.tuple #[.int .i64 v1,.int .i64 q1],.string s,.int .i64 p1,.tuple #[.int .i64 v1,.int .i64 q1],.int .i64 v1,.int .i64 q1,.string s,.int .i64 q1,.int .i64 p2,.int .i64 v1,.bool false,.bool false,.int .i64 p2,.bool false,.bool false,.tuple #[.int .i64 v2,.int .i64 q2],.string s,.int .i64 p2,.tuple #[.int .i64 v2,.int .i64 q2],.int .i64 v2,.int .i64 q2,.string s,.int .i64 q2,.int .i64 p3,.int .i64 v2,.bool false,.bool false,.int .i64 p3,.bool false,.bool false,.int .i64 p3,.int .i64 k,.string s,.int .i64 s.size,.bool false,.bool false,undef,undef,undef,undef,.bool false,u59,u60,v61,v62,v63,v64,v65,v66,v67,v68,v69,v70,v71] []∧RhJ w v1 v2 s p3 k r q b0 b1 b2 b3 b4 b5 b6 b7 b8 b9 b10 b11 b12 b13 b14 v61 v62 v63 v64 v65 v66 v67 v68 v69 v70 v71 v4 v5 v6 v7 w') ?_ ?_ ?_
   ·exact (e_8 (e_8 (e_8 (e_4 (e_2 ⟨rfl,rfl,(by constructor;(case below=>exact (Below.refl _ w).drew);all_goals simp)⟩)))))
   ·rintro i listed act w' hi ⟨b0,b1,b2,b3,b4,b5,b6,b7,b8,b9,b10,b11,b12,b13,b14,v61,v62,v63,v64,v65,v66,v67,v68,v69,v70,v71,v4,v5,v6,v7,rfl,rfl,H⟩;have hi16:i < 15:=by
     obtain⟨-,o,ho,-⟩:=mem_ready.1 hi;exact (Array.getElem?_eq_some_iff.1 ho).1
    obtain rfl | rfl | rfl | rfl | rfl | rfl | rfl | rfl | rfl | rfl | rfl | rfl | rfl | rfl | rfl:i=0∨i=1∨i=2∨i=3∨i=4∨i=5∨i=6∨i=7∨i=8∨i=9∨i=10∨i=11∨i=12∨i=13∨i=14:=by omega
    all_goals simp[mem_ready,Region.binds] at hi
    ·refine wpOp_hidden rfl fun K hK=>?_;go_wp2;refine OnlyN.mk (hK.out _ _ (e_8 (e_8 (e_8 (e_4 (e_2 ⟨rfl,rfl,{ H with h0:=fun _=>rfl }⟩))))))
    ·refine wpOp_hidden rfl fun K hK=>?_;go_wp2;refine OnlyN.mk (hK.out _ _ (e_8 (e_8 (e_8 (e_4 (e_2 ⟨rfl,rfl,{ H with h1:=fun _=>rfl }⟩))))))
    ·refine wpOp_hidden rfl fun K hK=>?_;go_wp2;refine OnlyN.mk (hK.out _ _ (e_8 (e_8 (e_8 (e_4 (e_2 ⟨rfl,rfl,{ H with h2:=fun _=>rfl }⟩))))))
    ·refine wpOp_hidden rfl fun K hK=>?_;go_wp2;refine OnlyN.mk (hK.out _ _ (e_8 (e_8 (e_8 (e_4 (e_2 ⟨rfl,rfl,{ H with h3:=fun _=>rfl }⟩))))))
    ·refine wpOp_hidden rfl fun K hK=>?_;go_wp2;refine OnlyN.mk (hK.out _ _ (e_8 (e_8 (e_8 (e_4 (e_2 ⟨rfl,rfl,{ H with h4:=fun _=>rfl }⟩))))))
    ·obtain rfl:=H.h2 (by simp[hi]);obtain rfl:=H.h3 (by simp[hi]);obtain rfl:=H.h4 (by simp[hi]);have hz1:p3≤k:=HB.out.1;have hz2:k≤s.size:=HB.out.2.1;refine wpOp_hidden rfl fun K hK=>?_;go_wp2;refine OnlyN.mk (hK.out _ _ (e_8 (e_8 (e_8 (e_4 (e_2 ⟨rfl,rfl,{ H with h5:=fun _=>by rw[HX.out] }⟩))))))
    ·refine wpOp_hidden rfl fun K hK=>?_;go_wp2;refine OnlyN.mk (hK.out _ _ (e_8 (e_8 (e_8 (e_4 (e_2 ⟨rfl,rfl,{ H with h6:=fun _=>rfl }⟩))))))
    ·obtain rfl:=H.h6 (by simp[hi]);have hwk:wrap64 ((k:Int)+1)=(k:Int)+1:=by have:=HB.out;unfold wrap64;omega
     refine wpOp_hidden rfl fun K hK=>?_;go_wp2;refine OnlyN.mk (hK.out _ _ (e_8 (e_8 (e_8 (e_4 (e_2 ⟨rfl,rfl,{ H with h7:=fun _=>rfl }⟩))))))
    ·refine wpOp_hidden rfl fun K hK=>?_;go_wp2;refine OnlyN.mk (hK.out _ _ (e_8 (e_8 (e_8 (e_4 (e_2 ⟨rfl,rfl,{ H with h8:=fun _=>rfl }⟩))))))
    ·obtain rfl:=H.h8 (by simp[hi]);refine wpOp_hidden rfl fun K hK=>?_;go_wp2;refine OnlyN.mk (hK.out _ _ (e_8 (e_8 (e_8 (e_4 (e_2 ⟨rfl,rfl,{ H with h9:=fun _=>rfl }⟩))))))
    ·obtain rfl:=H.h7 (by simp[hi]);obtain rfl:=H.h9 (by simp[hi]);refine wpOp_hidden rfl fun K hK=>?_;go_wp2;refine OnlyN.mk (hK.out _ _ (e_8 (e_8 (e_8 (e_4 (e_2 ⟨rfl,rfl,{ H with h10:=fun _=>by rw[HQ.out] }⟩))))))
    ·obtain rfl:=H.h0 (by simp[hi]);refine wpOp_hidden rfl fun K hK=>?_;go_wp2;refine OnlyN.mk (hK.out _ _ (e_8 (e_8 (e_8 (e_4 (e_2 ⟨rfl,rfl,{ H with h11:=fun _=>rfl }⟩))))))
    ·obtain rfl:=H.h1 (by simp[hi]);refine wpOp_hidden rfl fun K hK=>?_;go_wp2;refine OnlyN.mk (hK.out _ _ (e_8 (e_8 (e_8 (e_4 (e_2 ⟨rfl,rfl,{ H with h12:=fun _=>rfl }⟩))))))
    ·obtain rfl:=H.h5 (by simp[hi]);refine wpOp_hidden rfl fun K hK=>?_;go_wp2;refine OnlyN.mk (hK.out _ _ (e_8 (e_8 (e_8 (e_4 (e_2 ⟨rfl,rfl,{ H with h13:=fun _=>rfl }⟩))))))
    ·obtain rfl:=H.h10 (by simp[hi]);refine wpOp_hidden rfl fun K hK=>?_;go_wp2;refine OnlyN.mk (hK.out _ _ (e_8 (e_8 (e_8 (e_4 (e_2 ⟨rfl,rfl,{ H with h14:=fun _=>rfl }⟩))))))
   ·rintro listed act w' hr ⟨b0,b1,b2,b3,b4,b5,b6,b7,b8,b9,b10,b11,b12,b13,b14,v61,v62,v63,v64,v65,v66,v67,v68,v69,v70,v71,v4,v5,v6,v7,rfl,rfl,H⟩;have hn:=List.eq_nil_iff_forall_not_mem.1 hr;have r0:=hn 0;simp[mem_ready,Region.binds] at r0;subst r0;have r1:=hn 1;simp[mem_ready,Region.binds] at r1;subst r1;have r2:=hn 2;simp[mem_ready,Region.binds] at r2;subst r2;have r3:=hn 3;simp[mem_ready,Region.binds] at r3;subst r3;have r4:=hn 4;simp[mem_ready,Region.binds] at r4;subst r4;have r5:=hn 5;simp[mem_ready,Region.binds] at r5;subst r5;have r6:=hn 6;simp[mem_ready,Region.binds] at r6;subst r6;have r7:=hn 7;simp[mem_ready,Region.binds] at r7;subst r7;have r8:=hn 8;simp[mem_ready,Region.binds] at r8;subst r8;have r9:=hn 9;simp[mem_ready,Region.binds] at r9;subst r9;have r10:=hn 10;simp[mem_ready,Region.binds] at r10;subst r10;have r11:=hn 11;simp[mem_ready,Region.binds] at r11;subst r11;have r12:=hn 12;simp[mem_ready,Region.binds] at r12;subst r12;have r13:=hn 13;simp[mem_ready,Region.binds] at r13;subst r13;have r14:=hn 14;simp[mem_ready,Region.binds] at r14;subst r14;obtain rfl:=H.h11 rfl;obtain rfl:=H.h12 rfl;obtain rfl:=H.h13 rfl;obtain rfl:=H.h14 rfl;go_wp2;refine bodyPost_ret (v:=.tuple #[.int .i64 v1,.int .i64 v2,.string ⟨r.toArray⟩,.int .i64 q]) (by simp[results,Tryz.results106,go_sem]) rfl ?_;rw[HT2.out];exact⟨rfl,H.below⟩
end Go.Proofs.YtcfelnhmifkelaaGreatDoor
