/-
  texts ParsR Eq EqP EqR Hood Ref07 Asc Tot: parts of the proof; conditions stand with each theorem.
-/
import Derived.Test.YtcfelnhmifkelaaGreatDoorVG6
import Derived.Deep.CutRange
import Derived.Test.YtcfelnhmifkelaaGreatDoorRows
import Derived.Test.YtcfelnhmifkelaaGreatDoorVG0
namespace Go.Proofs.YtcfelnhmifkelaaGreatDoor
open Lib(hid)
open Go.RowKit
set_option maxRecDepth 100000
set_option linter.unusedVariables false
set_option linter.unusedSimpArgs false

structure RqI (l:List UInt8)(wd ht:Int)(q0 pos:Nat)(ds:List UInt8)(p:PS):Prop where
 x0:0≤p.x
 x1:p.x≤10000000*pos
 y0:0≤p.y
 y1:p.y≤10000000*pos
 n:p.out.length≤5000
 m:readM wd ht (l.drop q0) [] ps0=readM wd ht (l.drop pos) ds p
theorem RqI.next {l:List UInt8}{wd ht:Int}{q0 pos:Nat}{ds:List UInt8}{p:PS}(h:RqI l wd ht q0 pos ds p){b:UInt8}{k n:Int}{q:PS}(hb:l.drop pos=b :: l.drop (pos+1)) (hd:isDig b=false)(h2:ds=[]→¬ (b=32∨b=10)∧¬ b=33)
  (hk:stateC b.toNat=k) (hk2:¬ k = -2) (hn:runN ds=n) (hn0:0≤n) (hn1:n≤10000000) (hs:stepP wd ht p k n=(q,0)):RqI l wd ht q0 (pos+1) [] q:=by
 have hm:readM wd ht (l.drop q0) [] ps0=readM wd ht (l.drop (pos+1)) [] q:=by
  rw[h.m,hb,rd_step hd h2 (by rw[hk];exact hk2) (by rw[hk,hn,hs]),hk,hn,hs]
 have hx:=h.x0;have hx1:=h.x1;have hy:=h.y0;have hy1:=h.y1;have hc:=h.n;have key:0≤q.x∧q.x≤10000000*((pos:Int)+1)∧0≤q.y∧q.y≤10000000*((pos:Int)+1)∧q.out.length≤5000:=by
  by_cases k0:k < 0
  ·rw[st_line k0] at hs;injection hs with hs _
   subst hs;dsimp only;omega
  ·by_cases k1:0 < k
   ·by_cases k2:wd < p.x+n∨ht≤p.y
    ·rw[st_far k1 k2] at hs;injection hs with _ hs
     omega
    ·by_cases k3:5000 < (p.out.length:Int)+n
     ·rw[st_many k1 k2 k3] at hs;injection hs with _ hs
      omega
     ·rw[st_push k1 k2 k3] at hs;injection hs with hs _
      subst hs;dsimp only;rw[List.length_append,cellsP_len];omega
   ·rw[st_gap (by omega)] at hs;injection hs with hs _
    subst hs;dsimp only;omega
 exact⟨key.1,by have:=key.2.1;omega,key.2.2.1,by have:=key.2.2.2.1;omega,key.2.2.2.2,hm⟩
theorem RqI.err {l:List UInt8}{wd ht:Int}{q0 pos:Nat}{ds:List UInt8}{p:PS}(h:RqI l wd ht q0 pos ds p){b:UInt8}{k n e:Int}{q:PS}(hb:l.drop pos=b :: l.drop (pos+1)) (hd:isDig b=false)(h2:ds=[]→¬ (b=32∨b=10)∧¬ b=33)
  (hk:stateC b.toNat=k) (hk2:¬ k = -2) (hn:runN ds=n) (hs:stepP wd ht p k n=(q,e)) (he:e≠0):readM wd ht (l.drop q0) [] ps0=([],e):=by
 rw[h.m,hb,rd_err hd h2 (by rw[hk];exact hk2) (by rw[hk,hn,hs];exact he),hk,hn,hs]
theorem RqI.bad {l:List UInt8}{wd ht:Int}{q0 pos:Nat}{ds:List UInt8}{p:PS}(h:RqI l wd ht q0 pos ds p){b:UInt8}(hb:l.drop pos=b :: l.drop (pos+1)) (hd:isDig b=false)(h2:ds=[]→¬ (b=32∨b=10)∧¬ b=33)
  (hk:stateC b.toNat = -2):readM wd ht (l.drop q0) [] ps0=([],15):=by
 rw[h.m,hb,rd_bad hd h2 hk]
theorem RqI.blank {l:List UInt8}{wd ht:Int}{q0 pos:Nat}{p:PS}(h:RqI l wd ht q0 pos [] p){b:UInt8}(hb:l.drop pos=b :: l.drop (pos+1)) (hc:b=32∨b=10):RqI l wd ht q0 (pos+1) [] p:=
 ⟨h.x0,by have:=h.x1;omega,h.y0,by have:=h.y1;omega,h.n,by rw[h.m,hb,rd_blank hc]⟩
theorem run_stop:∀ {l:List UInt8}{c:UInt8},l[(digRun l).length]?=some c→isDig c=false
 | [],c,h=>by simp[digRun] at h
 | a :: l,c,h=>by
  by_cases ha:isDig a=true
  ·simp only[digRun,ha,if_true,List.length_cons,List.getElem?_cons_succ] at h;exact run_stop h
  ·simp only[digRun,ha,if_neg,Bool.false_eq_true,if_false,List.length_nil,List.getElem?_cons_zero,Option.some.injEq] at h;subst h;simpa using ha
theorem run_drop (l:List UInt8)(p:Nat):l.drop p=digRun (l.drop p) ++ l.drop (p+(digRun (l.drop p)).length):=by
 have h:=digRun_split (l.drop p);rw[List.drop_drop] at h;exact h
theorem RqI.run {l:List UInt8}{wd ht:Int}{q0 pos:Nat}{p:PS}(h:RqI l wd ht q0 pos [] p)(h0:okN 7 (digRun (l.drop pos))=true) (h1:1≤numL (digRun (l.drop pos))):RqI l wd ht q0 (pos+(digRun (l.drop pos)).length) (digRun (l.drop pos)) p:=by
 have hg:=okN_good7 h0 h1;refine⟨h.x0,by have:=h.x1;omega,h.y0,by have:=h.y1;omega,h.n,?_⟩;rw[h.m]
 conv=>lhs;rw[run_drop l pos]
 have h2:=rd_run wd ht p (digRun (l.drop pos)) (l.drop (pos+(digRun (l.drop pos)).length)) [] (digRun_all _) (by simpa using hg.1) (by simpa using hg.2.2) (by simpa using hg.2.1);simpa using h2
theorem RqI.runbad {l:List UInt8}{wd ht:Int}{q0 pos:Nat}{p:PS}(h:RqI l wd ht q0 pos [] p)(hd:digRun (l.drop pos)≠[]) (h0:okN 7 (digRun (l.drop pos))=false∨numL (digRun (l.drop pos)) < 1):readM wd ht (l.drop q0) [] ps0=([],15):=by
 rw[h.m]
 conv=>lhs;rw[run_drop l pos]
 have hb:=okN_bad7 hd h0 (digRun_all _);refine rd_run_bad wd ht p _ _ [] (digRun_all _) hd ?_;rcases hb with hb | hb
 ·exact .inl ⟨hb,rfl⟩
 ·exact .inr ⟨by simp,by simpa using hb⟩
theorem rmin_drop {l:List UInt8}{p k:Nat}(hp:p≤l.length)(h:(lineOf (l.drop p)).length+p=k):l.drop (min (k+1) l.length)=afterLine (l.drop p):=by
 rw[← after_line_drop hp,show p+(lineOf (l.drop p)).length=k by omega]
theorem rskip {l:List UInt8}{p k:Nat}(hp:p < l.length)(h35:l[p]=35)(h:(lineOf (l.drop p)).length+p=k):skipC (l.drop p)=skipC (l.drop (min (k+1) l.length)):=by
 rw[rmin_drop (Nat.le_of_lt hp) h,skipC_yes (by rw[List.drop_eq_getElem_cons hp,h35];rfl)]
theorem eq_byte {b:UInt8}{k:Nat}(hk:k < 256)(h:b=UInt8.ofNat k):((b.toNat:Int) == (k:Int))=true:=by
 subst h;rw[UInt8.toNat_ofNat',Nat.mod_eq_of_lt hk]
 simp
theorem line_le (l:List UInt8)(p:Nat):(lineOf (l.drop p)).length≤l.length:=by
 have:=congrArg List.length (line_split (l.drop p));rw[List.length_append,List.length_drop] at this;omega
theorem meas_up4 {n k j:Nat}(h:k+1≤j+1)(h2:k < n):n - (intOf (.int .i64 ((j:Int)+1))).toNat < n - (intOf (.int .i64 (k:Int))).toNat:=by
 simp[intOf];omega
theorem rmeas {p k n:Nat}(h:p≤k)(h2:p < n):n - (intOf (.int .i64 ((min (k+1) n:Nat):Int))).toNat < n - (intOf (.int .i64 (p:Int))).toNat:=by
 simp[intOf];omega
theorem wrap_sum {x n:Int}(h0:0≤x)(h1:x≤700000000000)(h2:0≤n)(h3:n≤10000000):wrap64 (x+n)=x+n:=by unfold wrap64;omega
theorem wrap_ln {k:Nat}{n:Int}(h0:k≤5000)(h2:0≤n)(h3:n≤10000000):wrap64 ((k:Int)+n)=(k:Int)+n:=by unfold wrap64;omega
theorem wrap_m {m n:Nat}(h:m < n)(h2:n≤5000):wrap64 ((m:Int)+1)=(m:Int)+1:=by unfold wrap64;omega
theorem m_le {m n:Nat}(h:m < n)(h2:n≤5000):(m:Int)≤10000000:=by omega
theorem RqI.bnd {l:List UInt8}{wd ht:Int}{q0 pos n:Nat}{ds:List UInt8}{p:PS}(h:RqI l wd ht q0 pos ds p)(h1:pos≤n)(h2:n≤65536):0≤p.x∧p.x≤700000000000∧0≤p.y∧p.y≤700000000000∧p.out.length≤5000:=
 ⟨h.x0,by have:=h.x1;omega,h.y0,by have:=h.y1;omega,h.n⟩
theorem min_cast (k:Nat)(n:Nat):min ((k:Int)+1) (n:Int)=((min (k+1) n:Nat):Int):=by omega
set_option maxHeartbeats 16000000 in
theorem rparse_any (s:ByteArray)(w:World)(hs:s.size≤2147483646) :
  Calls Tryz.prog 71 #[.string s] w (RetParse (parseL s.data.toList) w):=by
 have HHD:=hid (fun p w' hp=>rheader_any s p w' hp (by omega));have HNQ:=hid (fun p w' hp=>numQ_any s p 7 w' hp (by omega) (by omega));obtain⟨l,hl⟩:∃ l,l=s.data.toList:=⟨_,rfl⟩
 have hgb:∀ j (h:j < s.size) (h':j < l.length),l[j]=s[j]:=by subst hl;exact get_byte s
 have hlen:l.length=s.size:=by rw[hl];rfl
 rw[← hl] at HHD HNQ;rw[← hl];have HG:=hid (And.intro hlen hgb);clear hl hgb hlen;by_cases h6:65536 < s.size
 ·have HN:Hid (parseL l=([],[],6)):=hid (by unfold parseL;rw[if_pos (by rw[HG.out.1];exact h6)]);have h6':(65536:Int) < (s.size:Int):=by omega
  clear h6;go_enter Tryz.func71,Tryz.ntmps71;go_wp2;go_ret3;exact RetParse.bad HN.out (Below.refl _ _)
 have HT:Hid (parseL l=match hdrL (lineOf (skipC l)) with
  | none=>([],[],15)
  | some (w,h,rule)=>
   if nameB rule=false then ([],[],7)
   else if 1048577 < w∨1048577 < h then ([],[],5)
   else if (readM w h (afterLine (skipC l)) [] ps0).2≠0 then ([],[],(readM w h (afterLine (skipC l)) [] ps0).2)
   else ((readM w h (afterLine (skipC l)) [] ps0).1,rule,0)):=hid (by unfold parseL;rw[if_neg (by rw[HG.out.1];exact h6)];rfl)
 have h6':(s.size:Int)≤65536:=by omega
 have HL6:Hid (s.size≤65536):=hid (by omega);clear h6;go_enter Tryz.func71,Tryz.ntmps71;go_wp2;go_loopw [5] (fun at_ wr=>∃ p:Nat,p≤s.size∧at_=.int .i64 p∧wr=w∧Hid (skipC l=skipC (l.drop p))) (fun at_ _=>s.size - (intOf at_).toNat)
 case atStart=>exact⟨0,Nat.zero_le _,rfl,rfl,hid (by rw[List.drop_zero])⟩
 case round=>
  obtain⟨p,hp,rfl,hw,HSK⟩:=hrel;have hw2:=hw.symm;clear hw;subst hw2;go_upto_region 4 with fail
  go_cut [30] from 21 to 47 (fun c wx=>c=.bool (decide (l[p]?=some 35))∧wx=w)
  case first=>
   by_cases hlt:p < s.size
   ·have hlt':p < l.length:=by rw[HG.out.1];exact hlt
    have hlp:l[p]?=some s[p]:=by rw[List.getElem?_eq_getElem hlt',HG.out.2 p hlt hlt']
    by_cases h35:s[p]=35
    ·have e35:((s[p].toNat:Int) == 35)=true:=eq_byte (k:=35) (by omega) h35;have HZ:Hid (decide (l[p]?=some 35)=true):=hid (by rw[hlp,h35];rfl);clear h35 hlp;go_wp2
     go_meet
     exact⟨by rw[HZ.out],rfl⟩
    ·have e35:((s[p].toNat:Int) == 35)=false:=ne_byte (k:=35) (by omega) h35;have HZ:Hid (decide (l[p]?=some 35)=false):=hid (by rw[hlp];exact decide_eq_false (fun h=>h35 (Option.some.inj h)));clear h35 hlp;go_wp2
     go_meet
     exact⟨by rw[HZ.out],rfl⟩
   ·have HZ:Hid (decide (l[p]?=some 35)=false):=hid (by rw[List.getElem?_eq_none (by rw[HG.out.1];omega)];rfl);go_wp2
    go_meet
    exact⟨by rw[HZ.out],rfl⟩
  case rest=>
  obtain⟨hc30,hwc⟩:=hcut;have hwc2:=hwc.symm;subst hc30;clear hwc;subst hwc2;by_cases hq35:l[p]?=some 35
  ·have hlt':p < l.length:=(List.getElem?_eq_some_iff.1 hq35).1;have hlt:p < s.size:=by rw[← HG.out.1];exact hlt'
   have h35l:l[p]=35:=by rw[List.getElem?_eq_getElem hlt'] at hq35;exact Option.some.inj hq35
   rw[decide_eq_true hq35];clear hq35;have HSK2:Hid (∀ k,(lineOf (l.drop p)).length+p=k→skipC l=skipC (l.drop (min (k+1) s.size))):=hid (fun k hk=>by rw[HSK.out,rskip hlt' h35l hk,HG.out.1]);clear h35l;go_wp2;go_loopw [5] (fun at_ wr=>∃ (k:Nat) (xs:List UInt8),p≤k∧k≤s.size∧at_=.int .i64 k∧wr=w∧xs.length+p=k∧Hid (lineOf (l.drop p)=xs ++ lineOf (l.drop k))) (fun at_ _=>s.size - (intOf at_).toNat)
   case atStart=>exact⟨p,[],Nat.le_refl _,hp,rfl,rfl,by simp,hid rfl⟩
   case round=>
    obtain⟨k,xs,hk0,hk,rfl,hw,hxk,HX0⟩:=hrel;have hw2:=hw.symm;clear hw;subst hw2;have hwk:wrap64 ((k:Int)+1)=(k:Int)+1:=by unfold wrap64;omega
    by_cases hkl:k < s.size
    ·have hkl':k < l.length:=by rw[HG.out.1];exact hkl
     by_cases hc:s[k]=10
     ·have e1:((s[k].toNat:Int) != 10)=false:=by rw[hc];rfl
      have HN:=hid (HSK2.out k (by rw[HX0.out,lineOf_no hkl' (by rw[HG.out.2 k hkl hkl'];exact hc),List.append_nil];exact hxk));clear hc;go_wp2;go_roundw
      case rel=>exact⟨min (k+1) s.size,Nat.min_le_right _ _,(by rw[← min_cast]),(by first | rfl | trivial),HN⟩
      case measure=>rw[min_cast];exact rmeas hk0 hlt
     ·have e1:((s[k].toNat:Int) != 10)=true:=by
       simp only[bne_iff_ne,ne_eq];intro h;exact hc (UInt8.toNat_inj.1 (by have:(10:UInt8).toNat=10:=rfl;omega))
      have HN:Hid (lineOf (l.drop p)=(xs ++ [l[k]]) ++ lineOf (l.drop (k+1))):=hid (by
       rw[HX0.out,lineOf_yes hkl' (by rw[HG.out.2 k hkl hkl'];exact hc),List.append_assoc];rfl)
      clear hc;go_wp2;go_roundw
      case rel=>exact⟨k+1,xs ++ [l[k]],by omega,by omega,(by first | rfl | (rw[hwk];rfl)),(by first | rfl | trivial),by simp;omega,HN⟩
      case measure=>first | exact meas_up3 hkl | (rw[hwk];exact meas_up3 hkl)
    ·have HN:=hid (HSK2.out k (by
      rw[HX0.out,List.drop_of_length_le (by rw[HG.out.1];omega)];simpa [lineOf] using hxk))
     go_wp2;go_roundw
     case rel=>exact⟨min (k+1) s.size,Nat.min_le_right _ _,(by rw[← min_cast]),(by first | rfl | trivial),HN⟩
     case measure=>rw[min_cast];exact rmeas hk0 hlt
  ·have HSM:Hid (skipC l=l.drop p):=hid (by rw[HSK.out];exact skipC_no (by rw[List.head?_drop];exact hq35));rw[decide_eq_false hq35];clear hq35;go_upto_region 8 with fail
   have HH:=hid (HHD.out p w hp);have HSP:=hid (hdrQ_spec l p (by rw[HG.out.1];exact hp));rw[HSM.out] at HT;obtain⟨m,hm⟩:∃ m,m=l.drop p:=⟨_,rfl⟩
   have HLM:=hid hm;rw[← hm] at HT HSP;clear hm HSM HSK;cases hd:hdrL (lineOf m) with
   | none=>
    rw[hd] at HT;dsimp only at HT;rw[HSP.out.1 hd] at HH;dsimp only at HH;clear hd;go_wp2_with fail;refine HH.out.mono ?_;rintro e w1 ⟨rfl,hb1⟩;have HB1:=hid hb1;clear hb1;go_wp2;go_ret3;exact RetParse.bad HT.out HB1.out
   | some q=>
    obtain⟨wv,hv,rule⟩:=q;rw[hd] at HT;dsimp only at HT;obtain⟨q0,hq0,hq1,hq2,hbd⟩:=HSP.out.2 wv hv rule hd;rw[hq0] at HH;dsimp only at HH;have hrl:rule.length≤65536:=by
     have h1:=(hdrL_bd hd).2.2.2.2;have h2:=HSP;have h3:(lineOf m).length≤l.length:=by rw[HLM.out];exact line_le l p
     rw[HG.out.1] at h3;have:=HL6.out;omega
    rw[HG.out.1] at hq1;clear hd hq0 HSP;rw[← hq2] at HT;clear hq2;have HR:=hid (fun w'=>named_any ⟨rule.toArray⟩ w' (by show rule.toArray.size≤_;simp;omega));have HBD:=hid hbd;have HQ1:=hid hq1;clear hbd hrl hq1;cases hn:nameB rule
    ·rw[hn] at HR;rw[hn,if_pos rfl] at HT;clear hn;have dq:decide ((q0:Int) < 0)=false:=decide_eq_false (by omega);go_wp2_with fail;refine HH.out.mono ?_;rintro e w1 ⟨rfl,hb1⟩;have HB1:=hid hb1;clear hb1;go_wp2_with fail;refine (HR.out _).mono ?_;rintro e w3 ⟨rfl,hw3⟩;have hw4:=hw3.symm;clear hw3;subst hw4;go_wp2;go_ret3;exact RetParse.bad HT.out HB1.out
    rw[hn] at HR;rw[hn,if_neg (by simp)] at HT;clear hn;by_cases hw9:1048577 < wv
    ·rw[if_pos (.inl hw9)] at HT;have d1:decide (1048577 < wv)=true:=decide_eq_true hw9;have dq:decide ((q0:Int) < 0)=false:=decide_eq_false (by omega);go_wp2_with fail;refine HH.out.mono ?_;rintro e w1 ⟨rfl,hb1⟩;have HB1:=hid hb1;clear hb1;go_wp2_with fail;refine (HR.out _).mono ?_;rintro e w3 ⟨rfl,hw3⟩;have hw4:=hw3.symm;clear hw3;subst hw4;go_wp2;go_ret3;exact RetParse.bad HT.out HB1.out
    have d1:decide (1048577 < wv)=false:=decide_eq_false hw9;by_cases hh9:1048577 < hv
    ·rw[if_pos (.inr hh9)] at HT;have d2:decide (1048577 < hv)=true:=decide_eq_true hh9;have dq:decide ((q0:Int) < 0)=false:=decide_eq_false (by omega);go_wp2_with fail;refine HH.out.mono ?_;rintro e w1 ⟨rfl,hb1⟩;have HB1:=hid hb1;clear hb1;go_wp2_with fail;refine (HR.out _).mono ?_;rintro e w3 ⟨rfl,hw3⟩;have hw4:=hw3.symm;clear hw3;subst hw4;go_wp2;go_ret3;exact RetParse.bad HT.out HB1.out
    have d2:decide (1048577 < hv)=false:=decide_eq_false hh9;rw[if_neg (by omega)] at HT;clear hw9 hh9;have dq:decide ((q0:Int) < 0)=false:=decide_eq_false (by omega);go_wp2_with fail;refine HH.out.mono ?_;rintro e w1 ⟨rfl,hb1⟩;have HB1:=hid hb1;clear hb1;go_wp2_with fail;refine (HR.out _).mono ?_;rintro e w3 ⟨rfl,hw3⟩;have hw4:=hw3.symm;clear hw3;subst hw4;go_wp2;go_loopw [5,10,11,12,13,14,15,16,17] (fun at_ x y out _ _ _ _ _ wr=>∃ (pos:Nat) (p:PS),pos≤s.size∧at_=.int .i64 pos∧x=.int .i64 p.x∧y=.int .i64 p.y∧OwnC 114 wr w1.heap.size out p.out∧Below w1.heap.size w1 wr∧Hid (RqI l wv hv q0 pos [] p)) (fun at_ _ _ _ _ _ _ _ _ _=>s.size - (intOf at_).toNat)
    case atStart=>exact⟨q0,ps0,HQ1.out,rfl,rfl,rfl,OwnC.nil _ _ _,Below.refl _ _,hid ⟨by decide,by show (0:Int)≤_;omega,by decide,by show (0:Int)≤_;omega,by simp[ps0],rfl⟩⟩
    case round=>
     obtain⟨pos,pq,hpos,rfl,rfl,rfl,hown,hbw,HI⟩:=hrel;have hbw1:=HB1.out.trans (hbw.mono HB1.out.size);by_cases hps:pos < s.size
     ·have hps':pos < l.length:=by rw[HG.out.1];exact hps
      have HLD:Hid (l.drop pos=s[pos] :: l.drop (pos+1)):=hid (by rw[List.drop_eq_getElem_cons hps',HG.out.2 pos hps hps']);obtain⟨b,hb⟩:∃ b,b=s[pos]:=⟨_,rfl⟩
      rw[← hb] at HLD;have HBE:=hid hb;have eb:s[pos]=b:=hb.symm;clear hb;have hwp:wrap64 ((pos:Int)+1)=(pos:Int)+1:=by unfold wrap64;omega
      by_cases h33:b=33
      ·have HN:Hid (readM wv hv (l.drop q0) [] ps0=(pq.out,0)):=hid (by rw[HI.out.m,HLD.out,h33,rd_stop]);have e33:((b.toNat:Int) == 33)=true:=eq_byte (k:=33) (by omega) h33;rw[HN.out,if_neg (by simp)] at HT;clear h33;obtain⟨A,c,rfl,hcl,hnw⟩:=hown.cls;have HNW:=hid hnw;clear hnw;go_wp2;go_ret3;exact RetParse.good HT.out hcl hbw1 (HNW.out.mono (by have:=HB1.out.size;omega))
      have e33:((b.toNat:Int) == 33)=false:=ne_byte (k:=33) (by omega) h33;by_cases h32:b=32
      ·have HI2:=hid (HI.out.blank HLD.out (.inl h32));have e32:((b.toNat:Int) == 32)=true:=eq_byte (k:=32) (by omega) h32;clear h32 h33;go_wp2;go_roundw
       case rel=>exact⟨pos+1,pq,by omega,(by first | rfl | (rw[hwp];rfl)),rfl,rfl,hown,hbw,HI2⟩
       case measure=>first | exact meas_up3 hps | (rw[hwp];exact meas_up3 hps)
      have e32:((b.toNat:Int) == 32)=false:=ne_byte (k:=32) (by omega) h32;by_cases h10:b=10
      ·have HI2:=hid (HI.out.blank HLD.out (.inr h10));have e10:((b.toNat:Int) == 10)=true:=eq_byte (k:=10) (by omega) h10;clear h10 h33 h32;go_wp2;go_roundw
       case rel=>exact⟨pos+1,pq,by omega,(by first | rfl | (rw[hwp];rfl)),rfl,rfl,hown,hbw,HI2⟩
       case measure=>first | exact meas_up3 hps | (rw[hwp];exact meas_up3 hps)
      have e10:((b.toNat:Int) == 10)=false:=ne_byte (k:=10) (by omega) h10;have H2:Hid (¬ (b=32∨b=10)∧¬ b=33):=hid ⟨fun h=>h.elim h32 h10,h33⟩;clear h32 h10 h33;have HDG:Hid (isDig b=(decide ((48:Int)≤b.toNat) && decide ((b.toNat:Int)≤57))):=hid rfl;go_upto_region 24 with fail
      go_cut [99] from 68 to 170 (fun c wx=>c=.bool (isDig b)∧wx=wr)
      case first=>
       by_cases hh:(48:Int)≤b.toNat
       ·have d48:decide ((48:Int)≤b.toNat)=true:=decide_eq_true hh;by_cases hh2:(b.toNat:Int)≤57
        ·have d57:decide ((b.toNat:Int)≤57)=true:=decide_eq_true hh2;go_wp2
         go_meet
         exact⟨by rw[HDG.out,d48,d57];rfl,rfl⟩
        ·have d57:decide ((b.toNat:Int)≤57)=false:=decide_eq_false hh2;go_wp2
         go_meet
         exact⟨by rw[HDG.out,d48,d57];rfl,rfl⟩
       ·have d48:decide ((48:Int)≤b.toNat)=false:=decide_eq_false hh;go_wp2
        go_meet
        exact⟨by rw[HDG.out,d48];rfl,rfl⟩
      case rest=>
      obtain⟨hc99,hwc⟩:=hcut;have hwc2:=hwc.symm;subst hc99;clear hwc;subst hwc2;cases hdg:isDig b
      ·have HI3:Hid (RqI l wv hv q0 pos [] pq):=HI;have HRN:Hid (runN []=1):=hid rfl;have HN01:Hid ((0:Int)≤1∧(1:Int)≤10000000):=hid (by omega);have HD3:Hid (isDig b=false):=hid hdg;have H23:Hid (([]:List UInt8)=[]→¬ (b=32∨b=10)∧¬ b=33):=hid (fun _=>H2.out);have HLD3:=HLD;clear hdg;have hbn:(b.toNat:Int)≤255:=by have:=b.toNat_lt;omega
       have HST:Hid (∀ w',Calls Tryz.prog 109 #[.int .u8 (b.toNat:Int)] w' fun e w''=>e=.returned (.int .i64 (stateC b.toNat))∧w''=w'):=hid (fun w'=>rstate_any (b.toNat:Int) w' (by omega) hbn);obtain⟨k,hk⟩:∃ k,k=stateC (b.toNat:Int):=⟨_,rfl⟩
       rw[← hk] at HST;have HKB:=hid (stateC_bd (b.toNat:Int));rw[← hk] at HKB;have HK:=hid hk.symm;clear hk hbn;by_cases k2:k = -2
       ·have HN:Hid (readM wv hv (l.drop q0) [] ps0=([],15)):=hid (HI3.out.bad HLD3.out HD3.out H23.out (by rw[HK.out,k2]));rw[HN.out,if_pos (by simp)] at HT;subst k2;go_wp2_with fail;refine (HST.out _).mono ?_;rintro e w5 ⟨rfl,hw5⟩;have hw6:=hw5.symm;clear hw5;subst hw6;go_wp2;go_ret3;exact RetParse.bad HT.out hbw1
       have k2e:(k == -2)=false:=by simpa using k2
       have HK2:=hid k2;clear k2;have HXB:Hid (0≤pq.x∧pq.x≤700000000000∧0≤pq.y∧pq.y≤700000000000∧pq.out.length≤5000):=hid (RqI.bnd HI3.out (Nat.le_of_lt hps) HL6.out);have hyn:wrap64 (pq.y+1)=pq.y+1:=wrap_sum HXB.out.2.2.1 HXB.out.2.2.2.1 HN01.out.1 HN01.out.2;have hxn:wrap64 (pq.x+1)=pq.x+1:=wrap_sum HXB.out.1 HXB.out.2.1 HN01.out.1 HN01.out.2;have hln:wrap64 ((pq.out.length:Int)+1)=(pq.out.length:Int)+1:=wrap_ln HXB.out.2.2.2.2 HN01.out.1 HN01.out.2;have HPS:Hid (pos+1≤pos+1∧pos+1≤s.size):=hid ⟨Nat.le_refl _,hps⟩;by_cases k0:k < 0
       ·have HKM:Hid (k = -1):=hid (by have:=HKB.out;have:=HK2.out;omega);have k1e:(k == -1)=true:=by rw[HKM.out];rfl
        have HI2:=hid (HI3.out.next HLD3.out HD3.out H23.out HK.out HK2.out HRN.out HN01.out.1 HN01.out.2 (st_line k0));go_wp2_with fail;refine (HST.out _).mono ?_;rintro e w5 ⟨rfl,hw5⟩;have hw6:=hw5.symm;clear hw5;subst hw6;go_wp2;go_roundw
        case rel=>exact⟨pos+1,⟨pq.out,0,pq.y+1⟩,HPS.out.2,(by first | rfl | (rw[hwp];rfl)),rfl,(by first | rfl | rw[hyn]),hown,hbw,HI2⟩
        case measure=>first | exact meas_up4 HPS.out.1 hps | (rw[hwp];exact meas_up4 HPS.out.1 hps)
       have k1e:(k == -1)=false:=by have:=HKB.out;simp;omega
       have dk0:decide (k < 0)=false:=decide_eq_false k0;by_cases k1:0 < k
       ·have dk1:decide (0 < k)=true:=decide_eq_true k1;by_cases f1:wv < pq.x+1
        ·have df1:decide (wv < pq.x+1)=true:=decide_eq_true f1;have HN:Hid (readM wv hv (l.drop q0) [] ps0=([],5)):=hid (HI3.out.err HLD3.out HD3.out H23.out HK.out HK2.out HRN.out (st_far k1 (.inl f1)) (by decide));rw[HN.out,if_pos (by simp)] at HT;go_wp2_with fail;refine (HST.out _).mono ?_;rintro e w5 ⟨rfl,hw5⟩;have hw6:=hw5.symm;clear hw5;subst hw6;go_wp2;go_ret3;exact RetParse.bad HT.out hbw1
        have df1:decide (wv < pq.x+1)=false:=decide_eq_false f1;by_cases f2:hv≤pq.y
        ·have df2:decide (hv≤pq.y)=true:=decide_eq_true f2;have HN:Hid (readM wv hv (l.drop q0) [] ps0=([],5)):=hid (HI3.out.err HLD3.out HD3.out H23.out HK.out HK2.out HRN.out (st_far k1 (.inr f2)) (by decide));rw[HN.out,if_pos (by simp)] at HT;go_wp2_with fail;refine (HST.out _).mono ?_;rintro e w5 ⟨rfl,hw5⟩;have hw6:=hw5.symm;clear hw5;subst hw6;go_wp2;go_ret3;exact RetParse.bad HT.out hbw1
        have df2:decide (hv≤pq.y)=false:=decide_eq_false f2;by_cases f3:5000 < (pq.out.length:Int)+1
        ·have df3:decide (5000 < (pq.out.length:Int)+1)=true:=decide_eq_true f3;have HN:Hid (readM wv hv (l.drop q0) [] ps0=([],6)):=hid (HI3.out.err HLD3.out HD3.out H23.out HK.out HK2.out HRN.out (st_many k1 (by omega) f3) (by decide));rw[HN.out,if_pos (by simp)] at HT;obtain⟨A,c,rfl,-,-⟩:=hown.cls;go_wp2_with fail;refine (HST.out _).mono ?_;rintro e w5 ⟨rfl,hw5⟩;have hw6:=hw5.symm;clear hw5;subst hw6;go_wp2;go_ret3;exact RetParse.bad HT.out hbw1
        have df3:decide (5000 < (pq.out.length:Int)+1)=false:=decide_eq_false f3;have HI2:=hid (HI3.out.next HLD3.out HD3.out H23.out HK.out HK2.out HRN.out HN01.out.1 HN01.out.2 (st_push k1 (by omega) f3));obtain⟨nn,hnn⟩:∃ nn:Nat,nn=(1:Int).toNat:=⟨_,rfl⟩
        have HNE:Hid (((nn:Nat):Int)=1):=hid (by rw[hnn];have:=HN01.out;omega);rw[← hnn] at HI2;have HNN:Hid (nn≤5000):=hid (by have:=HNE.out;omega);clear hnn f1 f2 f3;obtain⟨A,c,hv9,hcl,hnw⟩:=hown.cls;subst hv9;go_wp2_with fail;refine (HST.out _).mono ?_;rintro e w5 ⟨rfl,hw5⟩;have hw6:=hw5.symm;clear hw5;subst hw6;go_upto_region 44 with fail
        try rw[hxn]
        try rw[hln]
        try rw[hwp]
        go_loopw [12,17] (fun o i wr2=>∃ m:Nat,m≤nn∧i=.int .i64 m∧Hid (OwnC 114 wr2 w1.heap.size o (pq.out ++ cellsP pq.x pq.y m k))∧Hid (Below w1.heap.size w1 wr2)) (fun _ i _=>nn - (intOf i).toNat)
        case atStart=>exact⟨0,Nat.zero_le _,rfl,hid (by rw[cellsP_zero,List.append_nil];exact hown),hid hbw⟩
        case round=>
         clear hown hbw hbw1;obtain⟨m,hm,rfl,HO,HBW⟩:=hrel;by_cases hlt9:m < nn
         ·have dm:decide ((m:Int) < 1)=true:=decide_eq_true (by rw[← HNE.out];omega);have hxm:wrap64 (pq.x+(m:Int))=pq.x+(m:Int):=wrap_sum HXB.out.1 HXB.out.2.1 (Int.natCast_nonneg m) (m_le hlt9 HNN.out);have hwm:wrap64 ((m:Int)+1)=(m:Int)+1:=wrap_m hlt9 HNN.out;obtain⟨A,c,hv9,-,-⟩:=HO.out.cls;have hown9:=HO.out;rw[hv9] at hown9;have hlen9:(pq.out ++ cellsP pq.x pq.y m k).length < 4294967296:=len9 HXB.out.2.2.2.2 hlt9 HNN.out;have hbs9:w1.heap.size≤_:=HBW.out.size;subst hv9;go_wp2_with (at_builtin;refine wpList_pushC rfl _ _ _ rfl w1.heap.size 114 Tryz.underlying30 Tryz.infoCell _ _ rfl hown9 _ _ _ rfl hlen9 hbs9 ?_);intro v' w9 ho9 hb9;have HO2:Hid (OwnC 114 w9 w1.heap.size v' (pq.out ++ cellsP pq.x pq.y (m+1) k)):=hid (by rw[cellsP_snoc,← List.append_assoc];first | exact ho9 | (rw[List.append_assoc];exact ho9));have HBW2:Hid (Below w1.heap.size w1 w9):=hid (HBW.out.trans hb9);clear ho9 hb9 hown9;go_wp2;go_roundw
          case rel=>exact⟨m+1,hlt9,(by first | rfl | (rw[hwm];rfl)),HO2,HBW2⟩
          case measure=>first | exact meas_up3 hlt9 | (rw[hwm];exact meas_up3 hlt9)
         ·have hme:m=nn:=by omega
          subst hme;have dm:decide ((m:Int) < 1)=false:=decide_eq_false (by rw[← HNE.out];omega);go_wp2;go_roundw
          case rel=>exact⟨pos+1,⟨pq.out ++ cellsP pq.x pq.y m k,pq.x+1,pq.y⟩,HPS.out.2,rfl,(by first | rfl | rw[hxn]),rfl,HO.out,HBW.out,HI2⟩
          case measure=>exact meas_up4 HPS.out.1 hps
       have dk1:decide (0 < k)=false:=decide_eq_false k1;have HI2:=hid (HI3.out.next HLD3.out HD3.out H23.out HK.out HK2.out HRN.out HN01.out.1 HN01.out.2 (st_gap (by omega)));have dn0:decide ((0:Int) < 1)=true:=by decide
       go_wp2_with fail;refine (HST.out _).mono ?_;rintro e w5 ⟨rfl,hw5⟩;have hw6:=hw5.symm;clear hw5;subst hw6;go_upto_region 44 with fail
       try rw[hwp]
       go_loopw [12,17] (fun o i wr2=>i=.int .i64 0∧Hid (OwnC 114 wr2 w1.heap.size o pq.out)∧Hid (Below w1.heap.size w1 wr2)) (fun _ i _=>0)
       case atStart=>exact⟨rfl,hid hown,hid hbw⟩
       case round=>
        clear hown hbw hbw1;obtain⟨rfl,HO,HBW⟩:=hrel;go_wp2;go_roundw
        case rel=>exact⟨pos+1,⟨pq.out,pq.x+1,pq.y⟩,HPS.out.2,rfl,(by first | rfl | rw[hxn]),rfl,HO.out,HBW.out,HI2⟩
        case measure=>exact meas_up4 HPS.out.1 hps
      ·have HNQ1:=hid (HNQ.out pos wr (Nat.le_of_lt hps));have hdne:digRun (l.drop pos)≠[]:=by rw[HLD.out];simp[digRun,hdg]
       have HRB:=hid (fun h0=>HI.out.runbad hdne h0);have HRG:=hid (fun h0 h1=>HI.out.run h0 h1);have HDA:=hid (digRun_all (l.drop pos));have HDS:=hid (fun c=>run_stop (l:=l.drop pos) (c:=c));have HQD:Hid (numQ 7 l pos=if okN 7 (digRun (l.drop pos))=true then (numL (digRun (l.drop pos)),(pos:Int)+(digRun (l.drop pos)).length) else (-1,(pos:Int))):=hid rfl;have hdl:pos+(digRun (l.drop pos)).length≤s.size:=by
        have:=digRun_le (l.drop pos);rw[List.length_drop,HG.out.1] at this;omega
       obtain⟨ds,hds⟩:∃ ds,ds=digRun (l.drop pos):=⟨_,rfl⟩
       rw[← hds] at hdne HRB HRG HDA HQD hdl HDS;clear hds hdg;by_cases hok:okN 7 ds=true∧1≤numL ds
       ·rw[if_pos hok.1] at HQD;have hd7:ds.length≤7:=(okN_good7 hok.1 hok.2).2.1;have HNB:=hid (numL_bd7 HDA.out hd7);have HI3:=hid (HRG.out hok.1 hok.2);have HRN0:Hid (runN ds=numL ds):=hid (by unfold runN;rw[if_neg hdne]);obtain⟨n,hn⟩:∃ n,n=numL ds:=⟨_,rfl⟩
        obtain⟨pos2,hp2⟩:∃ p,p=pos+ds.length:=⟨_,rfl⟩
        have hq:numQ 7 l pos=(n,(pos2:Int)):=by rw[HQD.out,hn,hp2];rfl
        rw[hq] at HNQ1;dsimp only at HNQ1;have hn1:¬ n < 1:=by rw[hn];omega
        rw[← hn] at HNB HRN0;rw[← hp2] at HI3 hdl;have dn1:decide (n < 1)=false:=decide_eq_false hn1;have HPP:Hid (pos < pos2):=hid (by have:=List.length_pos_iff.2 hdne;omega);have HD2:Hid (∀ (h:pos2 < s.size),isDig s[pos2]=false):=hid (fun h=>HDS.out s[pos2] (by
         have h':pos2 < l.length:=by rw[HG.out.1];exact h
         rw[List.getElem?_drop,← hp2,List.getElem?_eq_getElem h',HG.out.2 pos2 h h']))
        have HRN:=HRN0;have HNB1:Hid (1≤n):=hid (by omega);have HN01:Hid ((0:Int)≤n∧n≤10000000):=hid ⟨HNB.out.1,by have:=HNB.out.2;omega⟩;have H23:Hid (ds=[]→∀ (b:UInt8),¬ (b=32∨b=10)∧¬ b=33):=hid (fun h=>absurd h hdne);clear hn hp2 hq hok hdne hn1 hd7;by_cases hpe:pos2=s.size
        ·have HN:Hid (readM wv hv (l.drop q0) [] ps0=([],4)):=hid (by rw[HI3.out.m,List.drop_of_length_le (by rw[HG.out.1];omega),rd_end]);have dpe:((pos2:Int) == (s.size:Int))=true:=by rw[hpe];simp
         rw[HN.out,if_pos (by simp)] at HT;clear hpe;go_wp2_with fail;refine HNQ1.out.mono ?_;rintro e w5 ⟨rfl,hw5⟩;have hw6:=hw5.symm;clear hw5;subst hw6;go_wp2;go_ret3;exact RetParse.bad HT.out hbw1
        have dpe:((pos2:Int) == (s.size:Int))=false:=by simp;omega
        have hps2:pos2 < s.size:=by omega
        have hps2':pos2 < l.length:=by rw[HG.out.1];exact hps2
        have HLD3:Hid (l.drop pos2=s[pos2] :: l.drop (pos2+1)):=hid (by rw[List.drop_eq_getElem_cons hps2',HG.out.2 pos2 hps2 hps2']);have HD3:=hid (HD2.out hps2);obtain⟨b2,hb2⟩:∃ b,b=s[pos2]:=⟨_,rfl⟩
        rw[← hb2] at HLD3 HD3;have eb2:s[pos2]=b2:=hb2.symm;clear hb2;have hwp2:wrap64 ((pos2:Int)+1)=(pos2:Int)+1:=by unfold wrap64;omega
        clear hpe;have hbn:(b2.toNat:Int)≤255:=by have:=b2.toNat_lt;omega
        have HST:Hid (∀ w',Calls Tryz.prog 109 #[.int .u8 (b2.toNat:Int)] w' fun e w''=>e=.returned (.int .i64 (stateC b2.toNat))∧w''=w'):=hid (fun w'=>rstate_any (b2.toNat:Int) w' (by omega) hbn);obtain⟨k,hk⟩:∃ k,k=stateC (b2.toNat:Int):=⟨_,rfl⟩
        rw[← hk] at HST;have HKB:=hid (stateC_bd (b2.toNat:Int));rw[← hk] at HKB;have HK:=hid hk.symm;clear hk hbn;by_cases k2:k = -2
        ·have HN:Hid (readM wv hv (l.drop q0) [] ps0=([],15)):=hid (HI3.out.bad HLD3.out HD3.out (fun h=>H23.out h b2) (by rw[HK.out,k2]));rw[HN.out,if_pos (by simp)] at HT;subst k2;go_wp2_with fail;refine HNQ1.out.mono ?_;rintro e w5 ⟨rfl,hw5⟩;have hw6:=hw5.symm;clear hw5;subst hw6;go_wp2_with fail;refine (HST.out _).mono ?_;rintro e w5 ⟨rfl,hw5⟩;have hw6:=hw5.symm;clear hw5;subst hw6;go_wp2;go_ret3;exact RetParse.bad HT.out hbw1
        have k2e:(k == -2)=false:=by simpa using k2
        have HK2:=hid k2;clear k2;have HXB:Hid (0≤pq.x∧pq.x≤700000000000∧0≤pq.y∧pq.y≤700000000000∧pq.out.length≤5000):=hid (RqI.bnd HI3.out (Nat.le_of_lt hps2) HL6.out);have hyn:wrap64 (pq.y+n)=pq.y+n:=wrap_sum HXB.out.2.2.1 HXB.out.2.2.2.1 HN01.out.1 HN01.out.2;have hxn:wrap64 (pq.x+n)=pq.x+n:=wrap_sum HXB.out.1 HXB.out.2.1 HN01.out.1 HN01.out.2;have hln:wrap64 ((pq.out.length:Int)+n)=(pq.out.length:Int)+n:=wrap_ln HXB.out.2.2.2.2 HN01.out.1 HN01.out.2;have HPS:Hid (pos+1≤pos2+1∧pos2+1≤s.size):=hid ⟨by have:=HPP.out;omega,hps2⟩;by_cases k0:k < 0
        ·have HKM:Hid (k = -1):=hid (by have:=HKB.out;have:=HK2.out;omega);have k1e:(k == -1)=true:=by rw[HKM.out];rfl
         have HI2:=hid (HI3.out.next HLD3.out HD3.out (fun h=>H23.out h b2) HK.out HK2.out HRN.out HN01.out.1 HN01.out.2 (st_line k0));go_wp2_with fail;refine HNQ1.out.mono ?_;rintro e w5 ⟨rfl,hw5⟩;have hw6:=hw5.symm;clear hw5;subst hw6;go_wp2_with fail;refine (HST.out _).mono ?_;rintro e w5 ⟨rfl,hw5⟩;have hw6:=hw5.symm;clear hw5;subst hw6;go_wp2;go_roundw
         case rel=>exact⟨pos2+1,⟨pq.out,0,pq.y+n⟩,HPS.out.2,(by first | rfl | (rw[hwp2];rfl)),rfl,(by first | rfl | rw[hyn]),hown,hbw,HI2⟩
         case measure=>first | exact meas_up4 HPS.out.1 hps | (rw[hwp2];exact meas_up4 HPS.out.1 hps)
        have k1e:(k == -1)=false:=by have:=HKB.out;simp;omega
        have dk0:decide (k < 0)=false:=decide_eq_false k0;by_cases k1:0 < k
        ·have dk1:decide (0 < k)=true:=decide_eq_true k1;by_cases f1:wv < pq.x+n
         ·have df1:decide (wv < pq.x+n)=true:=decide_eq_true f1;have HN:Hid (readM wv hv (l.drop q0) [] ps0=([],5)):=hid (HI3.out.err HLD3.out HD3.out (fun h=>H23.out h b2) HK.out HK2.out HRN.out (st_far k1 (.inl f1)) (by decide));rw[HN.out,if_pos (by simp)] at HT;go_wp2_with fail;refine HNQ1.out.mono ?_;rintro e w5 ⟨rfl,hw5⟩;have hw6:=hw5.symm;clear hw5;subst hw6;go_wp2_with fail;refine (HST.out _).mono ?_;rintro e w5 ⟨rfl,hw5⟩;have hw6:=hw5.symm;clear hw5;subst hw6;go_wp2;go_ret3;exact RetParse.bad HT.out hbw1
         have df1:decide (wv < pq.x+n)=false:=decide_eq_false f1;by_cases f2:hv≤pq.y
         ·have df2:decide (hv≤pq.y)=true:=decide_eq_true f2;have HN:Hid (readM wv hv (l.drop q0) [] ps0=([],5)):=hid (HI3.out.err HLD3.out HD3.out (fun h=>H23.out h b2) HK.out HK2.out HRN.out (st_far k1 (.inr f2)) (by decide));rw[HN.out,if_pos (by simp)] at HT;go_wp2_with fail;refine HNQ1.out.mono ?_;rintro e w5 ⟨rfl,hw5⟩;have hw6:=hw5.symm;clear hw5;subst hw6;go_wp2_with fail;refine (HST.out _).mono ?_;rintro e w5 ⟨rfl,hw5⟩;have hw6:=hw5.symm;clear hw5;subst hw6;go_wp2;go_ret3;exact RetParse.bad HT.out hbw1
         have df2:decide (hv≤pq.y)=false:=decide_eq_false f2;by_cases f3:5000 < (pq.out.length:Int)+n
         ·have df3:decide (5000 < (pq.out.length:Int)+n)=true:=decide_eq_true f3;have HN:Hid (readM wv hv (l.drop q0) [] ps0=([],6)):=hid (HI3.out.err HLD3.out HD3.out (fun h=>H23.out h b2) HK.out HK2.out HRN.out (st_many k1 (by omega) f3) (by decide));rw[HN.out,if_pos (by simp)] at HT;obtain⟨A,c,rfl,-,-⟩:=hown.cls;go_wp2_with fail;refine HNQ1.out.mono ?_;rintro e w5 ⟨rfl,hw5⟩;have hw6:=hw5.symm;clear hw5;subst hw6;go_wp2_with fail;refine (HST.out _).mono ?_;rintro e w5 ⟨rfl,hw5⟩;have hw6:=hw5.symm;clear hw5;subst hw6;go_wp2;go_ret3;exact RetParse.bad HT.out hbw1
         have df3:decide (5000 < (pq.out.length:Int)+n)=false:=decide_eq_false f3;have HI2:=hid (HI3.out.next HLD3.out HD3.out (fun h=>H23.out h b2) HK.out HK2.out HRN.out HN01.out.1 HN01.out.2 (st_push k1 (by omega) f3));obtain⟨nn,hnn⟩:∃ nn:Nat,nn=(n:Int).toNat:=⟨_,rfl⟩
         have HNE:Hid (((nn:Nat):Int)=n):=hid (by rw[hnn];have:=HN01.out;omega);rw[← hnn] at HI2;have HNN:Hid (nn≤5000):=hid (by have:=HNE.out;omega);clear hnn f1 f2 f3;obtain⟨A,c,hv9,hcl,hnw⟩:=hown.cls;subst hv9;go_wp2_with fail;refine HNQ1.out.mono ?_;rintro e w5 ⟨rfl,hw5⟩;have hw6:=hw5.symm;clear hw5;subst hw6;go_wp2_with fail;refine (HST.out _).mono ?_;rintro e w5 ⟨rfl,hw5⟩;have hw6:=hw5.symm;clear hw5;subst hw6;go_upto_region 44 with fail
         try rw[hxn]
         try rw[hln]
         try rw[hwp2]
         go_loopw [12,17] (fun o i wr2=>∃ m:Nat,m≤nn∧i=.int .i64 m∧Hid (OwnC 114 wr2 w1.heap.size o (pq.out ++ cellsP pq.x pq.y m k))∧Hid (Below w1.heap.size w1 wr2)) (fun _ i _=>nn - (intOf i).toNat)
         case atStart=>exact⟨0,Nat.zero_le _,rfl,hid (by rw[cellsP_zero,List.append_nil];exact hown),hid hbw⟩
         case round=>
          clear hown hbw hbw1;obtain⟨m,hm,rfl,HO,HBW⟩:=hrel;by_cases hlt9:m < nn
          ·have dm:decide ((m:Int) < n)=true:=decide_eq_true (by rw[← HNE.out];omega);have hxm:wrap64 (pq.x+(m:Int))=pq.x+(m:Int):=wrap_sum HXB.out.1 HXB.out.2.1 (Int.natCast_nonneg m) (m_le hlt9 HNN.out);have hwm:wrap64 ((m:Int)+1)=(m:Int)+1:=wrap_m hlt9 HNN.out;obtain⟨A,c,hv9,-,-⟩:=HO.out.cls;have hown9:=HO.out;rw[hv9] at hown9;have hlen9:(pq.out ++ cellsP pq.x pq.y m k).length < 4294967296:=len9 HXB.out.2.2.2.2 hlt9 HNN.out;have hbs9:w1.heap.size≤_:=HBW.out.size;subst hv9;go_wp2_with (at_builtin;refine wpList_pushC rfl _ _ _ rfl w1.heap.size 114 Tryz.underlying30 Tryz.infoCell _ _ rfl hown9 _ _ _ rfl hlen9 hbs9 ?_);intro v' w9 ho9 hb9;have HO2:Hid (OwnC 114 w9 w1.heap.size v' (pq.out ++ cellsP pq.x pq.y (m+1) k)):=hid (by rw[cellsP_snoc,← List.append_assoc];first | exact ho9 | (rw[List.append_assoc];exact ho9));have HBW2:Hid (Below w1.heap.size w1 w9):=hid (HBW.out.trans hb9);clear ho9 hb9 hown9;go_wp2;go_roundw
           case rel=>exact⟨m+1,hlt9,(by first | rfl | (rw[hwm];rfl)),HO2,HBW2⟩
           case measure=>first | exact meas_up3 hlt9 | (rw[hwm];exact meas_up3 hlt9)
          ·have hme:m=nn:=by omega
           subst hme;have dm:decide ((m:Int) < n)=false:=decide_eq_false (by rw[← HNE.out];omega);go_wp2;go_roundw
           case rel=>exact⟨pos2+1,⟨pq.out ++ cellsP pq.x pq.y m k,pq.x+n,pq.y⟩,HPS.out.2,rfl,(by first | rfl | rw[hxn]),rfl,HO.out,HBW.out,HI2⟩
           case measure=>exact meas_up4 HPS.out.1 hps
        have dk1:decide (0 < k)=false:=decide_eq_false k1;have HI2:=hid (HI3.out.next HLD3.out HD3.out (fun h=>H23.out h b2) HK.out HK2.out HRN.out HN01.out.1 HN01.out.2 (st_gap (by omega)));have dn0:decide ((0:Int) < n)=true:=decide_eq_true (by have:=HNB1.out;omega);go_wp2_with fail;refine HNQ1.out.mono ?_;rintro e w5 ⟨rfl,hw5⟩;have hw6:=hw5.symm;clear hw5;subst hw6;go_wp2_with fail;refine (HST.out _).mono ?_;rintro e w5 ⟨rfl,hw5⟩;have hw6:=hw5.symm;clear hw5;subst hw6;go_upto_region 44 with fail
        try rw[hwp2]
        go_loopw [12,17] (fun o i wr2=>i=.int .i64 0∧Hid (OwnC 114 wr2 w1.heap.size o pq.out)∧Hid (Below w1.heap.size w1 wr2)) (fun _ i _=>0)
        case atStart=>exact⟨rfl,hid hown,hid hbw⟩
        case round=>
         clear hown hbw hbw1;obtain⟨rfl,HO,HBW⟩:=hrel;go_wp2;go_roundw
         case rel=>exact⟨pos2+1,⟨pq.out,pq.x+n,pq.y⟩,HPS.out.2,rfl,(by first | rfl | rw[hxn]),rfl,HO.out,HBW.out,HI2⟩
         case measure=>exact meas_up4 HPS.out.1 hps
       ·have HN:Hid (readM wv hv (l.drop q0) [] ps0=([],15)):=hid (HRB.out (by
         by_cases h1:okN 7 ds=true
         ·exact .inr (by have:¬ 1≤numL ds:=fun h=>hok ⟨h1,h⟩;omega)
         ·exact .inl (by simpa using h1)))
        have hlt1:(numQ 7 l pos).1 < 1:=by
         rw[HQD.out]
         split
         ·rename_i h1;have:¬ 1≤numL ds:=fun h=>hok ⟨h1,h⟩;show numL ds < 1;omega
         ·show (-1:Int) < 1;omega
        obtain⟨nq9,hnq9⟩:∃ n,n=numQ 7 l pos:=⟨_,rfl⟩
        rw[← hnq9] at HNQ1 hlt1;clear hnq9 HQD;obtain⟨n1,n2⟩:=nq9;dsimp only at HNQ1 hlt1;have dn1:decide (n1 < 1)=true:=decide_eq_true hlt1;rw[HN.out,if_pos (by simp)] at HT;clear hok hdne;go_wp2_with fail;refine HNQ1.out.mono ?_;rintro e w5 ⟨rfl,hw5⟩;have hw6:=hw5.symm;clear hw5;subst hw6;go_wp2;go_ret3;exact RetParse.bad HT.out hbw1
     ·have HN:Hid (readM wv hv (l.drop q0) [] ps0=([],4)):=hid (by rw[HI.out.m,List.drop_of_length_le (by rw[HG.out.1];omega),rd_end]);rw[HN.out,if_pos (by simp)] at HT;go_wp2;go_ret3;exact RetParse.bad HT.out hbw1
end Go.Proofs.YtcfelnhmifkelaaGreatDoor
namespace Go.Proofs.YtcfelnhmifkelaaGreatDoor
set_option linter.unusedSimpArgs false
set_option linter.unusedVariables false
set_option maxRecDepth 100000
open Go.RowKit
theorem take_eq_snoc {α:Type} {xs ys:List α}{k:Nat}(h:xs.take k=ys.take k)(h1:k < xs.length)(h2:k < ys.length)(h3:xs[k]=ys[k]):xs.take (k+1)=ys.take (k+1):=by
 rw[List.take_succ_eq_append_getElem h1,List.take_succ_eq_append_getElem h2,h,h3]
end Go.Proofs.YtcfelnhmifkelaaGreatDoor
namespace Go.Proofs.YtcfelnhmifkelaaGreatDoor
open Lib(hid)
set_option linter.unusedSimpArgs false
set_option linter.unusedVariables false
open Go.RowKit
set_option maxRecDepth 100000
theorem Tryz.stood_pt:Tryz.prog.stoodInHeld 117=false:=by kernel_rfl
theorem Tryz.guard_pt:Tryz.prog.eqGuardType Tryz.prog.depth 117=false:=by kernel_rfl
theorem neq_pt (a b c d:Int)(w:World):(binOp .neq 117 (.agg #[.int .i64 a,.int .i64 b]) (.agg #[.int .i64 c,.int .i64 d])).run Tryz.prog w=.ok (.bool (ptNe a b c d)) w:=by
 have h1:=Tryz.stood_pt;simp[go_sem,h1];unfold ptNe;by_cases h2:a=c <;> by_cases h3:b=d <;> simp[h2,h3]
set_option maxHeartbeats 400000 in
theorem equalPts (A B:Option Addr)(xs ys:List (Int × Int)) (c d:Nat)(w:World)(ha:Pts w A xs)(hb:Pts w B ys) :
  Calls Tryz.prog 220 #[.slice A xs.length c,.slice B ys.length d] w fun e w'=>e=.returned (.bool (decide (xs=ys)))∧Qt w w':=by
 have hn:=ha.le;have hm:=hb.le;by_cases hl:xs.length=ys.length
 ·have hd:((xs.length:Int) != ys.length)=false:=by simp[hl]
  have HL:=hid hl;clear hl;go_enter Tryz.func220,Tryz.ntmps220;go_wp2;go_loopw [13] (fun i wr=>∃ k q:Nat,k≤xs.length∧i=.int .i64 k∧wr=w.drewN q∧Hid (xs.take k=ys.take k)) (fun i _=>xs.length - (intOf i).toNat)
  case atStart=>exact⟨0,0,Nat.zero_le _,rfl,rfl,hid rfl⟩
  case round=>
   obtain⟨k,q,hk,rfl,rfl,HT⟩:=hrel;by_cases hlt:k < xs.length
   ·have hlt2:k < ys.length:=by have:=HL.out;omega
    obtain⟨b1,o1,rfl,-,hc,hc'⟩:=ha.at_ hlt;obtain⟨b2,o2,rfl,-,hc2,hc2'⟩:=hb.at_ hlt2;go_wp2;have hst:=Tryz.stood_pt;have heg:=Tryz.guard_pt;have hnq:=neq_pt;go_quiet (fail)
    go_wp2
    ·have hne:¬ xs[k]=ys[k]:=ptNe_true ‹_›;go_ret;refine⟨ret_bool (decide_eq_false ?_).symm,(Qt.drewN _ _).step _⟩;rintro rfl;exact hne rfl
    ·have he:xs[k]=ys[k]:=ptNe_false ‹_›;go_roundw
     case rel=>exact⟨k+1,_,by omega,by go_num,rfl,hid (take_eq_snoc HT.out hlt hlt2 he)⟩
     case measure=>simp[intOf];omega
   ·have hk':k=xs.length:=by omega
    have hfin:xs=ys:=by
     have:=HT.out;rwa [hk',List.take_of_length_le (Nat.le_refl _),List.take_of_length_le (by rw[HL.out];exact Nat.le_refl _)] at this
    clear hk';have HF:=hid hfin;clear hfin;go_wp2;go_ret;exact⟨ret_bool (decide_eq_true HF.out).symm,Qt.drewN _ _⟩
 ·have hd:((xs.length:Int) != ys.length)=true:=by simp;omega
  have hf:¬ xs=ys:=by
   rintro rfl;exact hl rfl
  have HF:=hid hf;clear hl hf;go_enter Tryz.func220,Tryz.ntmps220;go_wp2;go_ret;exact⟨ret_bool (decide_eq_false HF.out).symm,Qt.refl _⟩
end Go.Proofs.YtcfelnhmifkelaaGreatDoor
namespace Go.Proofs.YtcfelnhmifkelaaGreatDoor
set_option linter.unusedSimpArgs false
set_option linter.unusedVariables false
open Go.RowKit
set_option maxRecDepth 100000

end Go.Proofs.YtcfelnhmifkelaaGreatDoor
namespace Go.Proofs.YtcfelnhmifkelaaGreatDoor
open Lib(hid)
set_option linter.unusedSimpArgs false
open Go.RowKit
set_option maxRecDepth 100000
set_option linter.unusedVariables false

def xsOf (r:Nat):List Int:=(List.range (2*r+1)).map fun (i:Nat)=>(i:Int) - (r:Int)
def rowOf (r:Nat)(p:Int→Int→Bool)(y:Int)(i:Nat):List (Int × Int):=(((xsOf r).take i).filter (p · y)).map fun x=>(x,y)
def gridOf (r:Nat)(p:Int→Int→Bool)(j:Nat):List (Int × Int):=((xsOf r).take j).flatMap fun y=>rowOf r p y (2*r+1)
theorem xsOf_len (r:Nat):(xsOf r).length=2*r+1:=by simp[xsOf]
theorem xsOf_take (r i:Nat)(h:i < 2*r+1):(xsOf r).take (i+1)=(xsOf r).take i ++ [(i:Int) - r]:=by
 rw[List.take_succ_eq_append_getElem (by rw[xsOf_len];exact h)];simp[xsOf]
theorem rowOf_yes {r:Nat}{p:Int→Int→Bool}{y:Int}{i:Nat}(h:i < 2*r+1)(hp:p ((i:Int) - r) y=true):rowOf r p y (i+1)=rowOf r p y i ++ [((i:Int) - r,y)]:=by
 simp[rowOf,xsOf_take r i h,hp]
theorem rowOf_no {r:Nat}{p:Int→Int→Bool}{y:Int}{i:Nat}(h:i < 2*r+1)(hp:p ((i:Int) - r) y=false):rowOf r p y (i+1)=rowOf r p y i:=by
 simp[rowOf,xsOf_take r i h,hp]
theorem gridOf_succ {r:Nat}{p:Int→Int→Bool}{j:Nat}(h:j < 2*r+1):gridOf r p (j+1)=gridOf r p j ++ rowOf r p ((j:Int) - r) (2*r+1):=by
 simp[gridOf,xsOf_take r j h]
theorem rowOf_len (r:Nat)(p:Int→Int→Bool)(y:Int)(i:Nat):(rowOf r p y i).length≤2*r+1:=by
 unfold rowOf;rw[List.length_map];refine Nat.le_trans (List.length_filter_le _ _) ?_;rw[List.length_take,xsOf_len];omega
theorem gridOf_len (r:Nat)(p:Int→Int→Bool):∀ j,j≤2*r+1→(gridOf r p j).length≤j*(2*r+1)
 | 0,_=>by simp[gridOf]
 | j+1,h=>by
  rw[gridOf_succ (by omega),List.length_append,Nat.add_mul];have:=gridOf_len r p j (by omega);have:=rowOf_len r p ((j:Int) - r) (2*r+1);omega
theorem Tryz.infoPt:(Tryz.prog.info? 117).map (fun i=>(i.zero,i.size,i.bytes))=some (some (.agg #[.int .i64 0,.int .i64 0]),2,16):=by kernel_rfl
theorem Tryz.infoInt:(Tryz.prog.info? 3).map (fun i=>(i.zero,i.size,i.bytes))=some (some (.int .i64 0),1,8):=by kernel_rfl

set_option maxHeartbeats 400000 in
theorem collect_any (r:Nat)(hr:r≤2)(K:FuncId)(cap:Array Value)(p:Int→Int→Bool)(w:World)
  (hent:∀ (args:Array Value) (w:World),(callFunc K args).run Tryz.prog w=.ok (.enter K args) w)
  (hc:∀ (x y:Int) (w':World),-2≤x→x≤2→-2≤y→y≤2→Below w.heap.size w w'→Calls Tryz.prog K (#[.int .i64 x,.int .i64 y] ++ cap) w' fun e w''=>e=.returned (.bool (p x y))∧w'=w'') :
  Calls Tryz.prog 191 #[.int .i64 r,.func (.func K) #[] cap] w (RetPts (gridOf r p (2*r+1)) w):=by
 have HC:=hid hc;clear hc;go_enter Tryz.func191,Tryz.ntmps191;go_wp2;go_loopw [5,6] (fun v y wr=>∃ j:Nat,j≤2*r+1∧y=.int .i64 ((j:Int) - r)∧OwnP 117 wr w.heap.size v (gridOf r p j)∧Below w.heap.size w wr) (fun _ y _=>(r+1 - intOf y).toNat)
 case atStart=>exact⟨0,by omega,by go_num,OwnP.nil _ _ _,Below.refl _ _⟩
 case round=>
  obtain⟨j,hj,rfl,hown,hb⟩:=hrel;by_cases hlt:j < 2*r+1
  ·have hdec:decide (((j:Int) - r)≤(r:Int))=true:=decide_eq_true (by omega);go_wp2;obtain⟨wo,rfl⟩:∃ wo:World,wo=wr:=⟨_,rfl⟩
   go_loopw [5,7] (fun v x wr=>∃ i:Nat,i≤2*r+1∧x=.int .i64 ((i:Int) - r)∧OwnP 117 wr w.heap.size v (gridOf r p j ++ rowOf r p ((j:Int) - r) i)∧Below w.heap.size w wr) (fun _ x _=>(r+1 - intOf x).toNat)
   case atStart=>exact⟨0,by omega,by go_num,by simpa [rowOf] using hown,hb⟩
   case round=>
    obtain⟨i,hi,rfl,hown2,hb2⟩:=hrel;clear hown;by_cases hlt2:i < 2*r+1
    ·go_wp2_with fail;have hcall:=HC.out ((i:Int) - r) ((j:Int) - r) wr (by omega) (by omega) (by omega) (by omega) hb2;refine hcall.mono ?_;rintro e w' ⟨rfl,rfl⟩;clear hcall;have hlen:=gridOf_len r p j (by omega);have hlen2:=rowOf_len r p ((j:Int) - r) i;have hlen3:j*(2*r+1)≤5*5:=Nat.mul_le_mul (by omega) (by omega);have hlen4:(gridOf r p j ++ rowOf r p ((j:Int) - r) i).length < 4294967296:=by
      rw[List.length_append];omega
     clear hlen hlen2 hlen3;cases hp:p ((i:Int) - r) ((j:Int) - r)
     ·have HP:=rowOf_no hlt2 hp;have HP2:=hid HP;clear HP;go_wp2;go_roundw
      case rel=>exact⟨i+1,by omega,by go_num,by rw[HP2.out];exact hown2,hb2⟩
      case measure=>simp[intOf];omega
     ·have HP:=rowOf_yes hlt2 hp;have HP2:=hid HP;clear HP;go_wp2_with (at_builtin;refine wpList_pushP rfl _ _ _ rfl w.heap.size 117 Tryz.underlying141 Tryz.infoPt _ _ rfl hown2 _ _ rfl hlen4 hb2.size ?_);intro v' w1 hown3 hb3;have hb4:=hb2.trans hb3;go_wp2;go_roundw
      case rel=>exact⟨i+1,by omega,by go_num,by rw[HP2.out];exact hown3,hb4⟩
      case measure=>simp[intOf];omega
    ·obtain rfl:i=2*r+1:=by omega
     have HG:=hid (gridOf_succ (p:=p) hlt);go_wp2;go_roundw
     case rel=>exact⟨j+1,by omega,by go_num,by rw[HG.out];exact hown2,hb2⟩
     case measure=>simp[intOf];omega
  ·obtain rfl:j=2*r+1:=by omega
   obtain⟨A,c,hv,hp,hnew⟩:=hown.pts;subst hv;go_wp2;go_ret;exact⟨A,c,rfl,hp,hnew,hb⟩

theorem enters {P : Program} {f : FuncId} {fn : Func} {c : Code} (hf : P.funcs[f]? = some fn) (hname : (fn.name == "runtime.NumGoroutine") = false) (hb : fn.body = some c) (args : Array Value) (w : World) :
  (callFunc f args).run P w=.ok (.enter f args) w:=by
 have h1 : fn.name ≠ "runtime.NumGoroutine" := by simpa using hname
 simp[callFunc,hf,h1,hb]
def inAll (_ _:Int):Bool:=true
def inDia (r:Nat)(x y:Int):Bool:=decide (x.natAbs+y.natAbs≤r)
def inHex (x y:Int):Bool:=decide (0≤x*y)
def mooreL (r:Nat):List (Int × Int):=gridOf r inAll (2*r+1)
def neumL (r:Nat):List (Int × Int):=gridOf r (inDia r) (2*r+1)
def hexL:List (Int × Int):=gridOf 1 inHex 3
set_option maxHeartbeats 400000 in
theorem moore1_any (x y:Int)(w:World):Calls Tryz.prog 192 #[.int .i64 x,.int .i64 y] w fun e w'=>e=.returned (.bool (inAll x y))∧w=w':=by
 go_enter Tryz.func192,Tryz.ntmps192;go_wp2;go_ret;exact⟨rfl,rfl⟩
set_option maxHeartbeats 400000 in
theorem hex1_any (x y:Int)(w:World)(hx:-2≤x)(hx':x≤2)(hy:-2≤y)(hy':y≤2):Calls Tryz.prog 195 #[.int .i64 x,.int .i64 y] w fun e w'=>e=.returned (.bool (inHex x y))∧w=w':=by
 have h1:-4≤x*y∧x*y≤4:=by
  obtain rfl | rfl | rfl | rfl | rfl:x = -2∨x = -1∨x=0∨x=1∨x=2:=by omega
  all_goals omega
 obtain⟨h1,h2⟩:=h1;go_enter Tryz.func195,Tryz.ntmps195;go_wp2;go_ret;exact⟨rfl,rfl⟩
set_option maxHeartbeats 400000 in
theorem neum1_any (r:Nat)(hr:r≤2)(a:Addr)(x y:Int)(w:World)(hc:w.cell? a=some (.int .i64 r)) (hx:-2≤x)(hx':x≤2)(hy:-2≤y)(hy':y≤2) :
  Calls Tryz.prog 194 #[.int .i64 x,.int .i64 y,.pointer (some a)] w fun e w'=>e=.returned (.bool (inDia r x y))∧w=w':=by
 go_enter Tryz.func194,Tryz.ntmps194;go_wp2;all_goals go_ret
 all_goals exact⟨ret_bool (decide_eq_decide.2 (by omega)),rfl⟩
set_option maxHeartbeats 400000 in
theorem moore_any (r:Nat)(hr:r≤2)(w:World) :
  Calls Tryz.prog 151 #[.int .i64 r] w (RetPts (mooreL r) w):=by
 have hE:=enters Tryz.func192 (by kernel_rfl) rfl;have hC:=hid (collect_any r hr 192 #[] inAll w hE (fun x y w' _ _ _ _ _=>moore1_any x y w'));clear hE;go_enter Tryz.func151,Tryz.ntmps151;go_wp2_with fail;refine hC.out.mono ?_;rintro e w' ⟨A,c,rfl,hp,hnew,hb⟩;go_wp2;go_ret;exact⟨A,c,rfl,hp,hnew,hb⟩
set_option maxHeartbeats 400000 in
theorem hex_any (w:World) :
  Calls Tryz.prog 154 #[] w (RetPts hexL w):=by
 have hE:=enters Tryz.func195 (by kernel_rfl) rfl;have hC:=hid (collect_any 1 (by omega) 195 #[] inHex w hE (fun x y w' h1 h2 h3 h4 _=>hex1_any x y w' h1 h2 h3 h4));clear hE;go_enter Tryz.func154,Tryz.ntmps154;go_wp2_with fail;refine hC.out.mono ?_;rintro e w' ⟨A,c,rfl,hp,hnew,hb⟩;go_wp2;go_ret;exact⟨A,c,rfl,hp,hnew,hb⟩
set_option maxHeartbeats 400000 in
theorem neum_any (r:Nat)(hr:r≤2)(w:World) :
  Calls Tryz.prog 153 #[.int .i64 r] w (RetPts (neumL r) w):=by
 have hE:=enters Tryz.func194 (by kernel_rfl) rfl;have hc0:(w.alloc (.cells #[.int .i64 r] 3)).cell? ⟨w.heap.size,0,none⟩=some (.int .i64 r):=cell_of_row _ _ _ _ _ _ (heap_alloc_new w _);have hC:=hid (collect_any r hr 194 #[.pointer (some ⟨w.heap.size,0,none⟩)] (inDia r) (w.alloc (.cells #[.int .i64 r] 3)) hE
  (fun x y w' h1 h2 h3 h4 h5=>neum1_any r hr _ x y w' ((h5.cell (by simp)).trans hc0) h1 h2 h3 h4))
 clear hE hc0;go_enter Tryz.func153,Tryz.ntmps153;go_wp2_with fail;refine hC.out.mono ?_;rintro e w' ⟨A,c,rfl,hp,hnew,hb⟩;have hb':=(((Below.refl w.heap.size w).alloc (Nat.le_refl _) (.cells #[.int .i64 r] 3)).trans (hb.mono (by simp)))
 clear hb;go_wp2;go_ret;exact⟨A,c,rfl,hp,hnew.mono (by simp),hb'⟩

set_option maxHeartbeats 400000 in
theorem abs_any (x:Int)(w:World)(h1:-1000000≤x)(h2:x≤1000000):Calls Tryz.prog 203 #[.int .i64 x] w fun e w'=>e=.returned (.int .i64 x.natAbs)∧w'=w:=by
 go_enter Tryz.func203,Tryz.ntmps203;go_wp2;all_goals go_ret
 all_goals exact⟨ret_int (by omega),rfl⟩

set_option maxHeartbeats 400000 in
theorem rmoore_any (r:Nat)(hr:r≤2)(w:World) :
  Calls Tryz.prog 168 #[.int .i64 r] w (RetPts (mooreL r) w):=by
 go_enter Tryz.func168,Tryz.ntmps168;go_wp2;go_loopw [3,4] (fun v y wr=>∃ j:Nat,j≤2*r+1∧y=.int .i64 ((j:Int) - r)∧OwnP 117 wr w.heap.size v (gridOf r inAll j)∧Below w.heap.size w wr) (fun _ y _=>(r+1 - intOf y).toNat)
 case atStart=>exact⟨0,by omega,by go_num,OwnP.nil _ _ _,Below.refl _ _⟩
 case round=>
  obtain⟨j,hj,rfl,hown,hb⟩:=hrel;by_cases hlt:j < 2*r+1
  ·have hdec:decide (((j:Int) - r)≤(r:Int))=true:=decide_eq_true (by omega);go_wp2;obtain⟨wo,rfl⟩:∃ wo:World,wo=wr:=⟨_,rfl⟩
   go_loopw [3,5] (fun v x wr=>∃ i:Nat,i≤2*r+1∧x=.int .i64 ((i:Int) - r)∧OwnP 117 wr w.heap.size v (gridOf r inAll j ++ rowOf r inAll ((j:Int) - r) i)∧Below w.heap.size w wr) (fun _ x _=>(r+1 - intOf x).toNat)
   case atStart=>exact⟨0,by omega,by go_num,by simpa [rowOf] using hown,hb⟩
   case round=>
    obtain⟨i,hi,rfl,hown2,hb2⟩:=hrel;clear hown;by_cases hlt2:i < 2*r+1
    ·have hlen:=gridOf_len r inAll j (by omega);have hlen2:=rowOf_len r inAll ((j:Int) - r) i;have hlen3:j*(2*r+1)≤5*5:=Nat.mul_le_mul (by omega) (by omega);have hlen4:(gridOf r inAll j ++ rowOf r inAll ((j:Int) - r) i).length < 4294967296:=by
      rw[List.length_append];omega
     clear hlen hlen2 hlen3;have HP:=rowOf_yes (p:=inAll) (y:=(j:Int) - r) hlt2 rfl;have HP2:=hid HP;clear HP;go_wp2_with (at_builtin;refine wpList_pushP rfl _ _ _ rfl w.heap.size 117 Tryz.underlying141 Tryz.infoPt _ _ rfl hown2 _ _ rfl hlen4 hb2.size ?_);intro v' w1 hown3 hb3;have hb4:=hb2.trans hb3;go_wp2;go_roundw
     case rel=>exact⟨i+1,by omega,by go_num,by rw[HP2.out];exact hown3,hb4⟩
     case measure=>simp[intOf];omega
    ·obtain rfl:i=2*r+1:=by omega
     have HG:=hid (gridOf_succ (p:=inAll) hlt);go_wp2;go_roundw
     case rel=>exact⟨j+1,by omega,by go_num,by rw[HG.out];exact hown2,hb2⟩
     case measure=>simp[intOf];omega
  ·obtain rfl:j=2*r+1:=by omega
   obtain⟨A,c,hv,hp,hnew⟩:=hown.pts;subst hv;go_wp2;go_ret;exact⟨A,c,rfl,hp,hnew,hb⟩
theorem neum_eq:∀ r:Nat,r≤2→(mooreL r).filter (fun p=>inDia r p.1 p.2)=neumL r:=by decide
theorem moore_len:∀ r:Nat,r≤2→(mooreL r).length≤25:=by decide
theorem moore_rng:∀ r:Nat,r≤2→∀ p ∈ mooreL r,-2≤p.1∧p.1≤2∧-2≤p.2∧p.2≤2:=by decide
set_option maxHeartbeats 400000 in
theorem rneum_any (r:Nat)(hr:r≤2)(w:World) :
  Calls Tryz.prog 169 #[.int .i64 r] w (RetPts (neumL r) w):=by
 rw[← neum_eq r hr];have hM:=hid (rmoore_any r hr w);have hlen:=moore_len r hr;have hrng:=hid (moore_rng r hr);go_enter Tryz.func169,Tryz.ntmps169;go_wp2_with fail;refine hM.out.mono ?_;rintro e w1 ⟨A,c,rfl,hp,hnew,hb⟩;clear hM;go_wp2;go_loopw [4,5] (fun v i wr=>∃ k:Nat,k≤(mooreL r).length∧i=.int .i64 k∧OwnP 117 wr w1.heap.size v (((mooreL r).take k).filter (fun p=>inDia r p.1 p.2))∧Below w1.heap.size w1 wr) (fun _ i _=>(mooreL r).length - (intOf i).toNat)
 case atStart=>exact⟨0,by omega,rfl,OwnP.nil _ _ _,Below.refl _ _⟩
 case round=>
  obtain⟨k,hk,rfl,hown,hbr⟩:=hrel;have hpr:=hp.ext hbr;by_cases hlt:k < (mooreL r).length
  ·obtain⟨b1,o1,rfl,hbb,hc,hc'⟩:=hpr.at_ hlt;have hg:=hrng.out _ (List.getElem_mem hlt);obtain⟨g1,g2,g3,g4⟩:=hg;have hta:=hid (List.take_succ_eq_append_getElem hlt);go_wp2;go_quiet ((go_at_call 203;exact Calls.quiet_of_same (abs_any _ _ (by omega) (by omega))))
   have hl2:(((mooreL r).take k).filter (fun p=>inDia r p.1 p.2)).length < 4294967296:=by
    have:=List.length_filter_le (fun p:Int × Int=>inDia r p.1 p.2) ((mooreL r).take k);have:=List.length_take_le k (mooreL r);omega
   by_cases hin:(((mooreL r)[k].1.natAbs:Int)+((mooreL r)[k].2.natAbs:Int))≤(r:Int)
   ·have hf:((mooreL r).take (k+1)).filter (fun p=>inDia r p.1 p.2)=((mooreL r).take k).filter (fun p=>inDia r p.1 p.2) ++ [((mooreL r)[k].1,(mooreL r)[k].2)]:=by
     rw[hta.out,List.filter_append];have:inDia r (mooreL r)[k].1 (mooreL r)[k].2=true:=decide_eq_true (by omega);simp[this]
    have HF:=hid hf;clear hf;go_wp2_with (at_builtin;refine wpList_pushP rfl _ _ _ rfl w1.heap.size 117 Tryz.underlying141 Tryz.infoPt _ _ rfl (hown.drewN _) _ _ rfl hl2 hbr.size ?_);intro v' w2 hown2 hb2;have hb3:=(below_drewN hbr nq).trans hb2;go_wp2;go_roundw
    case rel=>exact⟨k+1,by omega,by go_num,by rw[HF.out];exact hown2,hb3⟩
    case measure=>simp[intOf];omega
   ·have hf:((mooreL r).take (k+1)).filter (fun p=>inDia r p.1 p.2)=((mooreL r).take k).filter (fun p=>inDia r p.1 p.2):=by
     rw[hta.out,List.filter_append];have:inDia r (mooreL r)[k].1 (mooreL r)[k].2=false:=decide_eq_false (by omega);simp[this]
    have HF:=hid hf;clear hf;go_wp2;go_roundw
    case rel=>exact⟨k+1,by omega,by go_num,by rw[HF.out];exact hown.drewN _,below_drewN hbr nq⟩
    case measure=>simp[intOf];omega
  ·obtain rfl:k=(mooreL r).length:=by omega
   rw[List.take_length] at hown;obtain⟨A2,c2,hv,hp2,hnew2⟩:=hown.pts;subst hv;have hb2:=hb.trans (hbr.mono hb.size);go_wp2;go_ret;exact⟨A2,c2,rfl,hp2,hnew2.mono hb.size,hb2⟩
theorem hex_eq:hexL=[(-1,-1),(0,-1),(-1,0),(0,0),(1,0),(0,1),(1,1)]:=by decide
set_option maxHeartbeats 400000 in
theorem rhex_any (w:World) :
  Calls Tryz.prog 170 #[] w (RetPts hexL w):=by
 go_enter Tryz.func170,Tryz.ntmps170;go_wp2;go_ret;refine⟨_,_,rfl,?_,(by intro ad e;injection e with e;subst e;exact Nat.le_refl _),(Below.refl _ _).alloc (Nat.le_refl _) _⟩;refine⟨⟨by decide,fun _=>⟨_,rfl,by simp,fun j u hj=>?_⟩⟩,by decide⟩;rw[addr_add,cell_of_row _ _ _ _ _ _ (heap_alloc_new w _)];rw[hex_eq] at hj;simpa [ptCells] using hj

def asc (last n:Int):List Int→Bool
 | []=>true
 | k :: l=>decide (last < k) && decide (k≤n) && asc k n l
theorem asc_drop {last n:Int}{xs:List Int}{k:Nat}(h:k < xs.length):asc last n (xs.drop k)=(decide (last < xs[k]) && decide (xs[k]≤n) && asc xs[k] n (xs.drop (k+1))):=by
 rw[List.drop_eq_getElem_cons h];rfl
set_option maxHeartbeats 400000 in
theorem ascends_any (A:Option Addr)(xs:List Int)(c:Nat)(n:Int)(w:World)(ha:Ints w A xs) :
  Calls Tryz.prog 196 #[.slice A xs.length c,.int .i64 n] w fun e w'=>e=.returned (.bool (asc (-1) n xs))∧w'=w:=by
 have hn:=ha.le;go_enter Tryz.func196,Tryz.ntmps196;go_wp2
 go_loop [5,10] (fun l i=>∃ (k:Nat) (last:Int),k≤xs.length∧i=.int .i64 k∧l=.int .i64 last∧Hid (asc (-1) n xs=asc last n (xs.drop k))) (fun _ i=>xs.length - (intOf i).toNat)
 case atStart=>exact⟨0,-1,Nat.zero_le _,rfl,rfl,hid rfl⟩
 case round=>
  obtain⟨k,last,hk,rfl,rfl,HT⟩:=hrel;by_cases hlt:k < xs.length
  ·obtain⟨b1,o1,rfl,-,hc⟩:=ha.at_ hlt;have hd:=asc_drop (last:=last) (n:=n) hlt;rw[← HT.out] at hd;have HD:=hid hd;clear hd HT;by_cases h1:xs[k]≤last
   ·have hno:asc (-1) n xs=false:=by rw[HD.out,decide_eq_false (by omega)];rfl
    have HN:=hid hno;clear hno;go_wp2;go_ret;exact⟨ret_bool HN.out.symm,rfl⟩
   ·by_cases h2:n < xs[k]
    ·have hno:asc (-1) n xs=false:=by rw[HD.out,decide_eq_false (p:=xs[k]≤n) (by omega)];simp
     have HN:=hid hno;clear hno;go_wp2;go_ret;exact⟨ret_bool HN.out.symm,rfl⟩
    ·have hyes:asc (-1) n xs=asc xs[k] n (xs.drop (k+1)):=by rw[HD.out,decide_eq_true (p:=last < xs[k]) (by omega),decide_eq_true (p:=xs[k]≤n) (by omega)];rfl
     have HY:=hid hyes;clear hyes;go_wp2
     go_round
     case rel=>exact⟨k+1,_,by omega,by go_num,rfl,HY⟩
     case measure=>simp[intOf];omega
  ·obtain rfl:k=xs.length:=by omega
   have hyes:asc (-1) n xs=true:=by rw[HT.out,List.drop_length];rfl
   have HY:=hid hyes;clear hyes;go_wp2;go_ret;exact⟨ret_bool HY.out.symm,rfl⟩

def prevOf (xs:List Int):Nat→Int
 | 0=>-1
 | k+1=>xs.getD k (-1)
set_option maxHeartbeats 800000 in
theorem numbers_any (A:Option Addr)(xs:List Int)(c:Nat)(n:Int)(w:World)(ha:Ints w A xs) :
  Calls Tryz.prog 171 #[.slice A xs.length c,.int .i64 n] w fun e w'=>e=.returned (.bool (asc (-1) n xs))∧Qt w w':=by
 have hn:=ha.le;go_enter Tryz.func171,Tryz.ntmps171;go_wp2;go_loopw [5] (fun i wr=>∃ (k q:Nat),k≤xs.length∧i=.int .i64 k∧wr=w.drewN q∧Hid (asc (-1) n xs=asc (prevOf xs k) n (xs.drop k)∧-1≤prevOf xs k)) (fun i _=>xs.length - (intOf i).toNat)
 case atStart=>exact⟨0,0,Nat.zero_le _,rfl,rfl,hid ⟨rfl,by simp[prevOf]⟩⟩
 case round=>
  obtain⟨k,q,hk,rfl,rfl,HT⟩:=hrel;by_cases hlt:k < xs.length
  ·obtain⟨b1,o1,rfl,-,hc⟩:=ha.at_ hlt;have hd:=asc_drop (last:=prevOf xs k) (n:=n) hlt;rw[← HT.out.1] at hd;have HD:=hid hd;clear hd;by_cases h1:xs[k] < 0
   ·have d1:decide (xs[k] < 0)=true:=decide_eq_true h1;have hno:asc (-1) n xs=false:=by
     rw[HD.out,decide_eq_false]
     ·rfl
     ·have:=HT.out.2;omega
    have HN:=hid hno;clear hno;go_wp2;go_quiet (fail)
    go_wp2;go_ret;exact⟨ret_bool HN.out.symm,(Qt.drewN _ _).step _⟩
   ·have hnext:prevOf xs (k+1)=xs[k]:=by simp[prevOf,List.getElem?_eq_getElem hlt]
    have d1:decide (xs[k] < 0)=false:=decide_eq_false h1;by_cases h2:n < xs[k]
    ·have hno:asc (-1) n xs=false:=by rw[HD.out,decide_eq_false (p:=xs[k]≤n) (by omega)];simp
     have HN:=hid hno;have d2:decide (n < xs[k])=true:=decide_eq_true h2;clear hno hnext;go_wp2;go_quiet (fail)
     go_wp2;go_ret;exact⟨ret_bool HN.out.symm,(Qt.drewN _ _).step _⟩
    ·have d2:decide (n < xs[k])=false:=decide_eq_false h2;by_cases h3:0 < k
     ·have d3:decide ((0:Int) < (k:Int))=true:=decide_eq_true (by omega);have hlt':k - 1 < xs.length:=by omega
      obtain⟨b2,o2,he,-,hc2⟩:=ha.at_ hlt';have hprev:prevOf xs k=xs[k - 1]:=by
       obtain⟨m,rfl⟩:∃ m,k=m+1:=⟨k - 1,by omega⟩
       show xs.getD m (-1)=xs[m];rw[List.getD_eq_getElem?_getD,List.getElem?_eq_getElem (by omega)];rfl
      rw[hprev] at HD;clear hprev;obtain⟨rfl,rfl⟩:b1=b2∧o1=o2:=by injection he with he;injection he with h1 h2;exact⟨h1,h2⟩
      clear he;have hidx:((k:Int) - 1).toNat=k - 1:=by omega
      by_cases h4:xs[k]≤xs[k - 1]
      ·have d4:decide (xs[k]≤xs[k - 1])=true:=decide_eq_true h4;have hno:asc (-1) n xs=false:=by rw[HD.out,decide_eq_false (p:=xs[k - 1] < xs[k]) (by omega)];simp
       have HN:=hid hno;clear hno hnext;go_wp2;go_quiet (fail)
       go_wp2;go_ret;exact⟨ret_bool HN.out.symm,(Qt.drewN _ _).step _⟩
      ·have d4:decide (xs[k]≤xs[k - 1])=false:=decide_eq_false h4;have hyes:asc (-1) n xs=asc (prevOf xs (k+1)) n (xs.drop (k+1))∧-1≤prevOf xs (k+1):=by
        rw[hnext,HD.out,decide_eq_true (p:=xs[k - 1] < xs[k]) (by omega),decide_eq_true (p:=xs[k]≤n) (by omega)];exact⟨rfl,by omega⟩
       have HY:=hid hyes;clear hyes hnext;go_wp2;go_quiet (fail)
       go_wp2;go_roundw
       case rel=>exact⟨k+1,_,by omega,by go_num,rfl,HY⟩
       case measure=>simp[intOf];omega
     ·have d3:decide ((0:Int) < (k:Int))=false:=decide_eq_false (by omega);have d3':decide (0 < k)=false:=decide_eq_false h3;have hyes:asc (-1) n xs=asc (prevOf xs (k+1)) n (xs.drop (k+1))∧-1≤prevOf xs (k+1):=by
       obtain rfl:k=0:=by omega
       rw[hnext,HD.out,decide_eq_true (p:=prevOf xs 0 < xs[0]) (by show (-1:Int) < xs[0];omega),decide_eq_true (p:=xs[0]≤n) (by omega)];exact⟨rfl,by omega⟩
      have HY:=hid hyes;clear hyes hnext h3;go_wp2;go_quiet (fail)
      go_wp2;go_roundw
      case rel=>exact⟨k+1,_,by omega,by go_num,rfl,HY⟩
      case measure=>simp[intOf];omega
  ·obtain rfl:k=xs.length:=by omega
   have hyes:asc (-1) n xs=true:=by rw[HT.out.1,List.drop_length];rfl
   have HY:=hid hyes;clear hyes;go_wp2;go_ret;exact⟨ret_bool HY.out.symm,Qt.drewN _ _⟩


structure TotL where
 hood:List (Int × Int)
 states:Int
 birth:List Int
 survive:List Int
 deriving DecidableEq

def totV (A:Option Addr)(a:Nat)(B:Option Addr)(b:Nat)(C:Option Addr)(c:Nat)(t:TotL):Value:=
 .agg #[.slice A t.hood.length a,.int .i64 t.states,.slice B t.birth.length b,.slice C t.survive.length c]
structure TotR (w:World)(A B C:Option Addr)(t:TotL):Prop where
 hood:Pts w A t.hood
 birth:Ints w B t.birth
 survive:Ints w C t.survive
theorem TotR.ext {w w':World}{A B C:Option Addr}{t:TotL}(h:TotR w A B C t)(hb:Below w.heap.size w w'):TotR w' A B C t:=
 ⟨h.hood.ext hb,h.birth.ext hb,h.survive.ext hb⟩
def knownB (ps:List (Int × Int)):Bool:=decide (ps=mooreL 1) || decide (ps=neumL 1) || decide (ps=hexL)
def letterS (ps:List (Int × Int)):ByteArray:=if ps=mooreL 1 then ⟨#[]⟩ else if ps=neumL 1 then ⟨#[86]⟩ else if ps=hexL then ⟨#[72]⟩ else ⟨#[]⟩
def rightT (t:TotL):Bool:=knownB t.hood && decide (2≤t.states) && decide (t.states≤8) && asc (-1) ((t.hood.length:Int) - 1) t.birth && asc (-1) ((t.hood.length:Int) - 1) t.survive
theorem moore_one (w:World):Calls Tryz.prog 151 #[.int .i64 1] w (RetPts (mooreL 1) w):=moore_any 1 (by omega) w
theorem neum_one (w:World):Calls Tryz.prog 153 #[.int .i64 1] w (RetPts (neumL 1) w):=neum_any 1 (by omega) w
theorem rmoore_one (w:World):Calls Tryz.prog 168 #[.int .i64 1] w (RetPts (mooreL 1) w):=rmoore_any 1 (by omega) w
theorem rneum_one (w:World):Calls Tryz.prog 169 #[.int .i64 1] w (RetPts (neumL 1) w):=rneum_any 1 (by omega) w
set_option maxHeartbeats 400000 in
theorem hsame_any (A B:Option Addr)(xs ys:List (Int × Int)) (c d:Nat)(w:World)(ha:Pts w A xs)(hb:Pts w B ys) :
  Calls Tryz.prog 211 #[.slice A xs.length c,.slice B ys.length d] w fun e w'=>e=.returned (.bool (decide (xs=ys)))∧Qt w w':=by
 have HE:=hid (equalPts A B xs ys c d w ha hb);go_enter Tryz.func211,Tryz.ntmps211;go_wp2_with fail;refine HE.out.mono ?_;rintro e w' ⟨rfl,hq⟩;clear HE;go_wp2;go_ret;exact⟨rfl,hq⟩
set_option maxHeartbeats 800000 in
theorem letter_anyT (A:Option Addr)(ps:List (Int × Int)) (c:Nat)(w:World)(ha:Pts w A ps) :
  Calls Tryz.prog 197 #[.slice A ps.length c] w fun e w'=>e=.returned (.tuple #[.string (letterS ps),.bool (knownB ps)])∧Below w.heap.size w w':=by
 by_cases h1:ps=mooreL 1
 ·have e1:letterS ps=⟨#[]⟩:=by unfold letterS;rw[if_pos h1]
  have e2:knownB ps=true:=by unfold knownB;rw[decide_eq_true h1];rfl
  rw[e1,e2];have d1:decide (ps=mooreL 1)=true:=decide_eq_true h1;clear e1 e2 h1;go_enter Tryz.func197,Tryz.ntmps197;go_wp2_with fail;refine (moore_one _).mono ?_;rintro e w1 ⟨A1,c1,rfl,hp1,-,hb1⟩;go_wp2_with fail;refine (hsame_any _ _ _ _ _ _ _ (ha.ext hb1) hp1).mono ?_;rintro e w2 ⟨rfl,hq⟩;go_wp2;go_ret2;exact⟨rfl,hb1.trans (hq.below _)⟩
 ·have d1:decide (ps=mooreL 1)=false:=decide_eq_false h1;by_cases h2:ps=neumL 1
  ·have e1:letterS ps=⟨#[86]⟩:=by unfold letterS;rw[if_neg h1,if_pos h2]
   have e2:knownB ps=true:=by unfold knownB;rw[d1,decide_eq_true h2];rfl
   rw[e1,e2];have d2:decide (ps=neumL 1)=true:=decide_eq_true h2;clear e1 e2 h1 h2;go_enter Tryz.func197,Tryz.ntmps197;go_wp2_with fail;refine (moore_one _).mono ?_;rintro e w1 ⟨A1,c1,rfl,hp1,-,hb1⟩;go_wp2_with fail;refine (hsame_any _ _ _ _ _ _ _ (ha.ext hb1) hp1).mono ?_;rintro e w2 ⟨rfl,hq⟩;have hb2:=hb1.trans (hq.below _);go_wp2_with fail;refine (neum_one _).mono ?_;rintro e w3 ⟨A3,c3,rfl,hp3,-,hb3⟩;have hb4:=hb2.trans (hb3.mono hb2.size);go_wp2_with fail;refine (hsame_any _ _ _ _ _ _ _ (ha.ext hb4) hp3).mono ?_;rintro e w4 ⟨rfl,hq4⟩;go_wp2;go_ret2;exact⟨rfl,hb4.trans (hq4.below _)⟩
  ·have d2:decide (ps=neumL 1)=false:=decide_eq_false h2;have e1:letterS ps=if ps=hexL then ⟨#[72]⟩ else ⟨#[]⟩:=by unfold letterS;rw[if_neg h1,if_neg h2]
   have e2:knownB ps=decide (ps=hexL):=by unfold knownB;rw[d1,d2];rfl
   rw[e1,e2];clear e1 e2 h1 h2;by_cases h3:ps=hexL
   ·rw[if_pos h3];have d3:decide (ps=hexL)=true:=decide_eq_true h3;rw[d3];clear h3;go_enter Tryz.func197,Tryz.ntmps197;go_wp2_with fail;refine (moore_one _).mono ?_;rintro e w1 ⟨A1,c1,rfl,hp1,-,hb1⟩;go_wp2_with fail;refine (hsame_any _ _ _ _ _ _ _ (ha.ext hb1) hp1).mono ?_;rintro e w2 ⟨rfl,hq⟩;have hb2:=hb1.trans (hq.below _);go_wp2_with fail;refine (neum_one _).mono ?_;rintro e w3 ⟨A3,c3,rfl,hp3,-,hb3⟩;have hb4:=hb2.trans (hb3.mono hb2.size);go_wp2_with fail;refine (hsame_any _ _ _ _ _ _ _ (ha.ext hb4) hp3).mono ?_;rintro e w4 ⟨rfl,hq4⟩;have hb5:=hb4.trans (hq4.below _);go_wp2_with fail;refine (hex_any _).mono ?_;rintro e w5 ⟨A5,c5,rfl,hp5,-,hb5'⟩;have hb6:=hb5.trans (hb5'.mono hb5.size);go_wp2_with fail;refine (hsame_any _ _ _ _ _ _ _ (ha.ext hb6) hp5).mono ?_;rintro e w6 ⟨rfl,hq6⟩;go_wp2;go_ret2;exact⟨rfl,hb6.trans (hq6.below _)⟩
   ·rw[if_neg h3];have d3:decide (ps=hexL)=false:=decide_eq_false h3;rw[d3];clear h3;go_enter Tryz.func197,Tryz.ntmps197;go_wp2_with fail;refine (moore_one _).mono ?_;rintro e w1 ⟨A1,c1,rfl,hp1,-,hb1⟩;go_wp2_with fail;refine (hsame_any _ _ _ _ _ _ _ (ha.ext hb1) hp1).mono ?_;rintro e w2 ⟨rfl,hq⟩;have hb2:=hb1.trans (hq.below _);go_wp2_with fail;refine (neum_one _).mono ?_;rintro e w3 ⟨A3,c3,rfl,hp3,-,hb3⟩;have hb4:=hb2.trans (hb3.mono hb2.size);go_wp2_with fail;refine (hsame_any _ _ _ _ _ _ _ (ha.ext hb4) hp3).mono ?_;rintro e w4 ⟨rfl,hq4⟩;have hb5:=hb4.trans (hq4.below _);go_wp2_with fail;refine (hex_any _).mono ?_;rintro e w5 ⟨A5,c5,rfl,hp5,-,hb5'⟩;have hb6:=hb5.trans (hb5'.mono hb5.size);go_wp2_with fail;refine (hsame_any _ _ _ _ _ _ _ (ha.ext hb6) hp5).mono ?_;rintro e w6 ⟨rfl,hq6⟩;go_wp2;go_ret2;exact⟨rfl,hb6.trans (hq6.below _)⟩
end Go.Proofs.YtcfelnhmifkelaaGreatDoor
