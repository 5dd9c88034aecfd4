/-
  texts Numb NumbR HdrP: parts of the proof; conditions stand with each theorem.
-/
import Derived.Test.YtcfelnhmifkelaaGreatDoorUG6
import Derived.Laws.Externs
namespace Go.Proofs.YtcfelnhmifkelaaGreatDoor
open Lib(hid)
open Go.RowKit
set_option maxRecDepth 100000
set_option linter.unusedVariables false
set_option linter.unusedSimpArgs false

theorem bytes_conv (s:ByteArray)(w:World):∃ cap W,(convert 9 95 (.string s)).run Tryz.prog w=.ok (.slice (some ⟨w.heap.size,0,none⟩) s.data.toList.length cap) W∧Below w.heap.size w W∧w.heap.size < W.heap.size∧
  ∀ i (h:i < s.data.toList.length),W.cell? ⟨w.heap.size,i,none⟩=some (.int .u8 s.data.toList[i].toNat):=by
 have hr:=run_bytes_of_string (P:=Tryz.prog) w 9 95 5 s Tryz.underlying9 Tryz.underlying95 Tryz.underlying5;refine⟨_,_,hr,?_,?_,?_⟩
 ·exact ((Below.refl w.heap.size w).drew).alloc (Nat.le_refl _) _
 ·simp
 ·intro i h;have hl:i < s.size:=by simpa using h
  have hc:=cell_of_row (w.drew.alloc (.cells (bytesRow s (grownCap w s.size 0 5)) 5 ((bytesRow s (grownCap w s.size 0 5)).size,(bytesRow s (grownCap w s.size 0 5)).size+1))) w.heap.size i _ _ _ (heap_alloc_new w.drew _);rw[hc];unfold bytesRow;rw[Array.getElem?_append_left (by simpa using hl)];have hl2:i < s.data.size:=hl;rw[Array.getElem?_map,Array.getElem?_eq_getElem hl2]
  simp
theorem numT_bad {d:Nat}{l:List UInt8}(h:okN d l=false):numT d l=(0,false):=by unfold numT;rw[if_neg (by rw[h];simp)]
theorem numT_not {d:Nat}{l:List UInt8}{k:Nat}(hk:k < l.length)(h:isDig l[k]=false):numT d l=(0,false):=by
 unfold numT;rw[if_neg];rintro⟨-,h2⟩;rw[List.all_eq_true] at h2;rw[h2 _ (List.getElem_mem hk)] at h;cases h
theorem okN_nil (d:Nat):okN d []=false:=by unfold okN;simp
theorem okN_long {d:Nat}{l:List UInt8}(h:d < l.length):okN d l=false:=by
 unfold okN;rw[decide_eq_false (p:=l.length≤d) (by omega)]
 simp
theorem okN_zero {d:Nat}{l:List UInt8}(h:1 < l.length)(h2:l.headD 0=48):okN d l=false:=by
 unfold okN;rw[decide_eq_true h,h2]
 simp
theorem okN_yes {d:Nat}{l:List UInt8}(h0:0 < l.length)(h1:l.length≤d)(h2:¬ (1 < l.length∧l.headD 0=48)):okN d l=true:=by
 unfold okN;have h3:l≠[]:=by rintro rfl;simp at h0
 rw[decide_eq_true h3,decide_eq_true h1];simp only[Bool.true_and,Bool.not_eq_true',Bool.and_eq_false_imp,decide_eq_true_eq,beq_eq_false_iff_ne,ne_eq];exact fun h4 h5=>h2 ⟨h4,h5⟩
theorem headD_get {l:List UInt8}(h:0 < l.length):l.headD 0=l[0]:=by
 cases l with
 | nil=>simp at h
 | cons a l=>rfl
set_option maxHeartbeats 2000000 in
theorem number_any (s:ByteArray)(d:Nat)(w:World)(hd:d≤9)(hs:s.size≤2147483648) :
  Calls Tryz.prog 137 #[.string s,.int .i64 d] w fun e w'=>e=.returned (.tuple #[.int .i64 (numT d s.data.toList).1,.bool (numT d s.data.toList).2])∧Below w.heap.size w w':=by
 obtain⟨l,hl⟩:∃ l,l=s.data.toList:=⟨_,rfl⟩
 have hgb:∀ j (h:j < s.size) (h':j < l.length),l[j]=s[j]:=by subst hl;exact get_byte s
 have hlen:l.length=s.size:=by rw[hl];rfl
 have HL:=hid hl;rw[← hl];have HG:=hid (And.intro hlen hgb);obtain⟨cap,W,hcv,hbW,hsz,hcells⟩:=bytes_conv s w;rw[← hl] at hcv hcells;have HC:=hid hcells;clear hl hgb hlen hcells;by_cases h0:s.size=0
 ·have hl0:=List.eq_nil_of_length_eq_zero (HG.out.1.trans h0);have HN:Hid (numT d l=(0,false)):=hid (numT_bad (by rw[hl0];exact okN_nil d));have d0:s.toList.isEmpty=true:=by rw[ByteArray.toList_eq,← HL.out,hl0];rfl
  clear hl0 h0;go_enter Tryz.func137,Tryz.ntmps137;go_wp2;go_ret2;rw[HN.out];exact⟨rfl,Below.refl _ _⟩
 have d0:s.toList.isEmpty=false:=by
  rw[ByteArray.toList_eq,← HL.out];cases hl:l with
  | nil=>exfalso;apply h0;rw[← HG.out.1,hl];rfl
  | cons a l=>rfl
 by_cases h1:d < s.size
 ·have HN:Hid (numT d l=(0,false)):=hid (numT_bad (okN_long (by rw[HG.out.1];exact h1)));have d1:decide ((d:Int) < (s.size:Int))=true:=decide_eq_true (by omega);go_enter Tryz.func137,Tryz.ntmps137;go_wp2;go_ret2;rw[HN.out];exact⟨rfl,Below.refl _ _⟩
 have d1:decide ((d:Int) < (s.size:Int))=false:=decide_eq_false (by omega);have h00:0 < s.size:=by omega
 have h0l:0 < l.length:=by rw[HG.out.1];exact h00
 have e0:l.headD 0=s[0]:=by rw[headD_get h0l];exact HG.out.2 0 h00 h0l
 have LOOP:Hid (okN d l=true)→Calls Tryz.prog 137 #[.string s,.int .i64 d] w fun e w'=>e=.returned (.tuple #[.int .i64 (numT d l).1,.bool (numT d l).2])∧Below w.heap.size w w':=by
  intro HOK;have HB0:Hid (¬ (1 < s.size∧s[0]=48)):=hid (by
   rintro⟨h2,h3⟩;have:=HOK.out;rw[okN_zero (by rw[HG.out.1];exact h2) (by rw[e0];exact h3)] at this;cases this)
  by_cases h2:1 < s.size
  ·have h3:¬ s[0]=48:=fun h=>HB0.out ⟨h2,h⟩;have e3:((s[0].toNat:Int) == 48)=false:=by
    simp only[beq_eq_false_iff_ne,ne_eq];intro h;exact h3 (UInt8.toNat_inj.1 (by have:(48:UInt8).toNat=48:=rfl;omega))
   have d2:decide ((1:Int) < (s.size:Int))=true:=decide_eq_true (by omega);clear h3;go_enter Tryz.func137,Tryz.ntmps137;go_wp2;go_loopw [6,8,30] (fun n _ i wr=>∃ k:Nat,k≤l.length∧i=.int .i64 k∧n=.int .i64 (numL (l.take k))∧wr=W∧Hid (∀ c ∈ l.take k,isDig c=true)) (fun _ _ i _=>l.length - (intOf i).toNat)
   case atStart=>exact⟨0,Nat.zero_le _,rfl,rfl,rfl,hid (fun c h=>by cases h)⟩
   case round=>
    obtain⟨k,hk,rfl,rfl,hw,HT⟩:=hrel;have hw2:=hw.symm;clear hw;subst hw2;have hl9:l.length≤9:=by rw[HG.out.1];omega
    have hnb:=numL_bd9 HT.out (by rw[List.length_take];omega);by_cases hlt:k < l.length
    ·have hc:=HC.out k hlt;have hc0:(l[k].toNat:Int)≤255:=by have:=l[k].toNat_lt;omega
     have hdg:isDig l[k]=(decide ((48:Int)≤l[k].toNat) && decide ((l[k].toNat:Int)≤57)):=rfl;have hdo:digOf l[k]=(l[k].toNat:Int) - 48:=rfl;have HD:=hid (And.intro hdg hdo);have HTK:Hid (numL (l.take (k+1))=10*numL (l.take k)+digOf l[k]):=hid (by rw[List.take_succ_eq_append_getElem hlt,numL_snoc]);have HAK:Hid (isDig l[k]=true→∀ c ∈ l.take (k+1),isDig c=true):=hid (fun h c hc=>by
      rw[List.take_succ_eq_append_getElem hlt,List.mem_append,List.mem_singleton] at hc;rcases hc with hc | rfl
      ·exact HT.out c hc
      ·exact h)
     have HNO:Hid (isDig l[k]=false→numT d l=(0,false)):=hid (fun h=>numT_not hlt h);clear hdg hdo;obtain⟨m,hm⟩:∃ m,m=numL (l.take k):=⟨_,rfl⟩
     rw[← hm] at hnb HTK;rw[← hm];clear hm;obtain⟨b,hb⟩:∃ b,b=l[k]:=⟨_,rfl⟩
     rw[← hb] at hc hc0 HD HTK HAK HNO;clear hb;by_cases h4:(b.toNat:Int) < 48
     ·have HN:=hid (HNO.out (by rw[HD.out.1,decide_eq_false (by omega)];rfl));go_wp2;go_ret2;rw[HN.out];exact⟨rfl,hbW⟩
     ·by_cases h5:(57:Int) < b.toNat
      ·have HN:=hid (HNO.out (by rw[HD.out.1,decide_eq_false (p:=(b.toNat:Int)≤57) (by omega),Bool.and_false]));go_wp2;go_ret2;rw[HN.out];exact⟨rfl,hbW⟩
      ·have HN:=hid (HAK.out (by rw[HD.out.1,decide_eq_true (by omega),decide_eq_true (by omega)];rfl));have HV:Hid (numL (l.take (k+1))=10*m+((b.toNat:Int) - 48)):=hid (by rw[HTK.out,HD.out.2]);go_wp2;go_roundw
       case rel=>exact⟨k+1,by omega,by go_num,by rw[HV.out],(by first | rfl | trivial),HN⟩
       case measure=>simp[intOf];omega
    ·have hke:k=l.length:=by omega
     subst hke;have HN:Hid (numT d l=(numL (l.take l.length),true)):=hid (by
      unfold numT;rw[if_pos ⟨HOK.out,by rw[List.all_eq_true];have:=HT.out;rwa [List.take_length] at this⟩,List.take_length])
     go_wp2;go_ret2;rw[HN.out];exact⟨rfl,hbW⟩
  ·have d2:decide ((1:Int) < (s.size:Int))=false:=decide_eq_false (by omega);go_enter Tryz.func137,Tryz.ntmps137;go_wp2;go_loopw [6,8,30] (fun n _ i wr=>∃ k:Nat,k≤l.length∧i=.int .i64 k∧n=.int .i64 (numL (l.take k))∧wr=W∧Hid (∀ c ∈ l.take k,isDig c=true)) (fun _ _ i _=>l.length - (intOf i).toNat)
   case atStart=>exact⟨0,Nat.zero_le _,rfl,rfl,rfl,hid (fun c h=>by cases h)⟩
   case round=>
    obtain⟨k,hk,rfl,rfl,hw,HT⟩:=hrel;have hw2:=hw.symm;clear hw;subst hw2;have hl9:l.length≤9:=by rw[HG.out.1];omega
    have hnb:=numL_bd9 HT.out (by rw[List.length_take];omega);by_cases hlt:k < l.length
    ·have hc:=HC.out k hlt;have hc0:(l[k].toNat:Int)≤255:=by have:=l[k].toNat_lt;omega
     have hdg:isDig l[k]=(decide ((48:Int)≤l[k].toNat) && decide ((l[k].toNat:Int)≤57)):=rfl;have hdo:digOf l[k]=(l[k].toNat:Int) - 48:=rfl;have HD:=hid (And.intro hdg hdo);have HTK:Hid (numL (l.take (k+1))=10*numL (l.take k)+digOf l[k]):=hid (by rw[List.take_succ_eq_append_getElem hlt,numL_snoc]);have HAK:Hid (isDig l[k]=true→∀ c ∈ l.take (k+1),isDig c=true):=hid (fun h c hc=>by
      rw[List.take_succ_eq_append_getElem hlt,List.mem_append,List.mem_singleton] at hc;rcases hc with hc | rfl
      ·exact HT.out c hc
      ·exact h)
     have HNO:Hid (isDig l[k]=false→numT d l=(0,false)):=hid (fun h=>numT_not hlt h);clear hdg hdo;obtain⟨m,hm⟩:∃ m,m=numL (l.take k):=⟨_,rfl⟩
     rw[← hm] at hnb HTK;rw[← hm];clear hm;obtain⟨b,hb⟩:∃ b,b=l[k]:=⟨_,rfl⟩
     rw[← hb] at hc hc0 HD HTK HAK HNO;clear hb;by_cases h4:(b.toNat:Int) < 48
     ·have HN:=hid (HNO.out (by rw[HD.out.1,decide_eq_false (by omega)];rfl));go_wp2;go_ret2;rw[HN.out];exact⟨rfl,hbW⟩
     ·by_cases h5:(57:Int) < b.toNat
      ·have HN:=hid (HNO.out (by rw[HD.out.1,decide_eq_false (p:=(b.toNat:Int)≤57) (by omega),Bool.and_false]));go_wp2;go_ret2;rw[HN.out];exact⟨rfl,hbW⟩
      ·have HN:=hid (HAK.out (by rw[HD.out.1,decide_eq_true (by omega),decide_eq_true (by omega)];rfl));have HV:Hid (numL (l.take (k+1))=10*m+((b.toNat:Int) - 48)):=hid (by rw[HTK.out,HD.out.2]);go_wp2;go_roundw
       case rel=>exact⟨k+1,by omega,by go_num,by rw[HV.out],(by first | rfl | trivial),HN⟩
       case measure=>simp[intOf];omega
    ·have hke:k=l.length:=by omega
     subst hke;have HN:Hid (numT d l=(numL (l.take l.length),true)):=hid (by
      unfold numT;rw[if_pos ⟨HOK.out,by rw[List.all_eq_true];have:=HT.out;rwa [List.take_length] at this⟩,List.take_length])
     go_wp2;go_ret2;rw[HN.out];exact⟨rfl,hbW⟩
 by_cases h2:1 < s.size
 ·by_cases h3:s[0]=48
  ·have HN:Hid (numT d l=(0,false)):=hid (numT_bad (okN_zero (by rw[HG.out.1];exact h2) (by rw[e0];exact h3)));have e3:((s[0].toNat:Int) == 48)=true:=by rw[h3];rfl
   have d2:decide ((1:Int) < (s.size:Int))=true:=decide_eq_true (by omega);clear h3 e0 LOOP;go_enter Tryz.func137,Tryz.ntmps137;go_wp2;go_ret2;rw[HN.out];exact⟨rfl,Below.refl _ _⟩
  ·exact LOOP (hid (okN_yes h0l (by rw[HG.out.1];omega) (by rw[e0];exact fun h=>h3 h.2)))
 ·exact LOOP (hid (okN_yes h0l (by rw[HG.out.1];omega) (by rw[HG.out.1];exact fun h=>h2 h.1)))
end Go.Proofs.YtcfelnhmifkelaaGreatDoor
namespace Go.Proofs.YtcfelnhmifkelaaGreatDoor
open Go.RowKit
set_option maxRecDepth 100000
set_option linter.unusedVariables false
set_option linter.unusedSimpArgs false


def tx:List UInt8:=[120,32,61,32]
def ty:List UInt8:=[44,32,121,32,61,32]
def tr:List UInt8:=[44,32,114,117,108,101,32,61,32]
def hdrT (l:List UInt8):Int × Int × List UInt8 × Bool:=
 if Lib.hasPrefix l tx=false then (0,0,[],false)
 else if (Lib.cut (Lib.trimPrefix l tx) ty).2.2=false then (0,0,[],false)
 else ((numT 9 (Lib.cut (Lib.trimPrefix l tx) ty).1).1,(numT 9 (Lib.cut (Lib.cut (Lib.trimPrefix l tx) ty).2.1 tr).1).1,(Lib.cut (Lib.cut (Lib.trimPrefix l tx) ty).2.1 tr).2.1,
  (Lib.cut (Lib.cut (Lib.trimPrefix l tx) ty).2.1 tr).2.2 && (numT 9 (Lib.cut (Lib.trimPrefix l tx) ty).1).2 && (numT 9 (Lib.cut (Lib.cut (Lib.trimPrefix l tx) ty).2.1 tr).1).2)
theorem numT_run (a:List UInt8):numT 9 (digRun a)=if okN 9 (digRun a)=true then (numL (digRun a),true) else (0,false):=by
 unfold numT;have h:(digRun a).all isDig=true:=by rw[List.all_eq_true];exact digRun_all a
 by_cases h2:okN 9 (digRun a)=true
 ·rw[if_pos ⟨h2,h⟩,if_pos h2]
 ·rw[if_neg (fun h3=>h2 h3.1),if_neg h2]
theorem run_get {a:List UInt8}{j:Nat}(h:j < (digRun a).length):∃ c,a[j]?=some c∧isDig c=true:=by
 have h1:=digRun_split a;refine⟨(digRun a)[j],?_,digRun_all a _ (List.getElem_mem h)⟩
 conv=>lhs;rw[h1]
 rw[List.getElem?_append_left h,List.getElem?_eq_getElem h]
theorem run_of_take:∀ {a:List UInt8}{i:Nat}{c:UInt8},(∀ x ∈ a.take i,isDig x=true)→a[i]?=some c→isDig c=false→digRun a=a.take i
 | [],i,c,_,h,_=>by simp at h
 | b :: a,0,c,_,h,hc=>by
  simp at h;subst h;simp[digRun,hc]
 | b :: a,i+1,c,ha,h,hc=>by
  have hb:isDig b=true:=ha b (by simp);have:=run_of_take (a:=a) (i:=i) (fun x hx=>ha x (by simp[hx])) (by simpa using h) hc;simp[digRun,hb,this]
theorem cut_hit {a t b:List UInt8}(hs:stripL (44 :: t) (a.drop (digRun a).length)=some b):Lib.cut a (44 :: t)=(digRun a,b,true):=by
 unfold stripL at hs
 split at hs
 ·rename_i hp;have hb:=Option.some.inj hs;have hi:Lib.index a (44 :: t)=((digRun a).length:Nat):=by
   refine Lib.index_first (digRun_le a) hp ?_;intro j hj;cases ho:Lib.occAt a (44 :: t) j
   ·rfl
   ·obtain⟨c,h1,h2⟩:=run_get hj;rw[Lib.occAt_head rfl ho] at h1;cases h1
    revert h2
    decide
  unfold Lib.cut;rw[hi,if_pos (by omega)];refine Prod.ext ?_ (Prod.ext ?_ rfl)
  ·show a.take _=digRun a;rw[Int.toNat_natCast];have h1:=digRun_split a;have h2:a.take (digRun a).length=(digRun a ++ a.drop (digRun a).length).take (digRun a).length:=by rw[← h1]
   rw[h2,List.take_left]
  ·show a.drop _=b;rw[← hb,List.drop_drop,Int.toNat_natCast]
 ·cases hs
theorem cut_occ {a sep:List UInt8}(h:0≤Lib.index a sep)(hn:sep≠[]):Lib.occAt a sep (Lib.index a sep).toNat=true:=by
 by_cases hall:∀ j,j≤a.length→Lib.occAt a sep j=false
 ·rw[Lib.index_none hall] at h;omega
 ·have hex:∃ j,j≤a.length∧Lib.occAt a sep j=true:=by
   refine Classical.byContradiction fun hne=>hall fun j hj=>?_;cases ho:Lib.occAt a sep j
   ·rfl
   ·exact absurd ⟨j,hj,ho⟩ hne
  have key:∀ n j,j≤n→j≤a.length→Lib.occAt a sep j=true→∃ i,i≤a.length∧Lib.occAt a sep i=true∧∀ k,k < i→Lib.occAt a sep k=false:=by
   intro n;induction n with
   | zero=>
    intro j hj hl ho;obtain rfl:j=0:=by omega
    exact⟨0,hl,ho,fun k hk=>absurd hk (by omega)⟩
   | succ n ih=>
    intro j hj hl ho;by_cases hex2:∃ k,k < j∧Lib.occAt a sep k=true
    ·obtain⟨k,hk,hk2⟩:=hex2;exact ih k (by omega) (by omega) hk2
    ·refine⟨j,hl,ho,fun k hk=>?_⟩;cases hk2:Lib.occAt a sep k
     ·rfl
     ·exact absurd ⟨k,hk,hk2⟩ hex2
  obtain⟨j,hj,ho⟩:=hex;obtain⟨i,h1,h2,h3⟩:=key j j (Nat.le_refl _) hj ho;rw[Lib.index_first h1 h2 h3,Int.toNat_natCast];exact h2
theorem cut_miss {a t:List UInt8}(hs:stripL (44 :: t) (a.drop (digRun a).length)=none) (hc:(Lib.cut a (44 :: t)).2.2=true):(numT 9 (Lib.cut a (44 :: t)).1).2=false:=by
 cases hn:(numT 9 (Lib.cut a (44 :: t)).1).2
 ·rfl
 ·exfalso;unfold Lib.cut at hc hn
  split at hc
  ·rename_i h0;rw[if_pos h0] at hn;dsimp only at hn;have ho:=cut_occ h0 (by simp);have hd:∀ x ∈ a.take (Lib.index a (44 :: t)).toNat,isDig x=true:=by
    unfold numT at hn
    split at hn
    ·rename_i h2;exact List.all_eq_true.1 h2.2
    ·cases hn
   have hr:=run_of_take hd (Lib.occAt_head rfl ho) (by decide);have hlen:(digRun a).length=(Lib.index a (44 :: t)).toNat:=by
    rw[hr,List.length_take];have:=Lib.occAt_room ho;rcases this with h | h
    ·omega
    ·simp at h
   unfold stripL at hs;rw[hlen,if_pos (show (44 :: t).isPrefixOf (a.drop (Lib.index a (44 :: t)).toNat)=true from ho)] at hs;cases hs
  ·cases hc
theorem hdrT_none {l:List UInt8}(h:hdrL l=none):(hdrT l).2.2.2=false:=by
 unfold hdrT;by_cases h1:Lib.hasPrefix l tx=false
 ·rw[if_pos h1]
 rw[if_neg h1];by_cases h2:(Lib.cut (Lib.trimPrefix l tx) ty).2.2=false
 ·rw[if_pos h2]
 rw[if_neg h2];have h1':tx.isPrefixOf l=true:=by simpa [Lib.hasPrefix] using h1
 have ht:Lib.trimPrefix l tx=l.drop 4:=by
  unfold Lib.trimPrefix Lib.hasPrefix;rw[if_pos h1'];rfl
 rw[ht] at h2 ⊢;unfold hdrL at h;rw[show stripL [120,32,61,32] l=some (l.drop 4) from by unfold stripL;exact if_pos h1'] at h;dsimp only at h ⊢;cases hs:stripL ty ((l.drop 4).drop (digRun (l.drop 4)).length) with
 | none=>
  have hm:(numT 9 (Lib.cut (l.drop 4) ty).1).2=false:=cut_miss hs (by simpa [ty] using h2);rw[hm]
  simp
 | some b=>
  have hc:Lib.cut (l.drop 4) ty=(digRun (l.drop 4),b,true):=cut_hit hs;rw[hc];dsimp only;rw[numT_run];by_cases ho:okN 9 (digRun (l.drop 4))=false
  ·rw[if_neg (by rw[ho];simp)]
   simp
  rw[if_neg ho] at h;rw[show stripL [44,32,121,32,61,32] ((l.drop 4).drop (digRun (l.drop 4)).length)=some b from hs] at h;dsimp only at h;cases hs2:stripL tr (b.drop (digRun b).length) with
  | none=>
   cases hcc:(Lib.cut b tr).2.2
   ·simp
   ·have hm:(numT 9 (Lib.cut b tr).1).2=false:=cut_miss hs2 hcc;rw[hm]
    simp
  | some r=>
   have hc2:Lib.cut b tr=(digRun b,r,true):=cut_hit hs2;rw[hc2];dsimp only;rw[numT_run];by_cases ho2:okN 9 (digRun b)=false
   ·rw[if_neg (c:=okN 9 (digRun b)=true) (by rw[ho2];simp)]
    simp
   rw[if_neg ho2] at h;rw[show stripL [44,32,114,117,108,101,32,61,32] (b.drop (digRun b).length)=some r from hs2] at h;cases h
theorem hdrT_some {l r:List UInt8}{w h:Int}(hh:hdrL l=some (w,h,r)):hdrT l=(w,h,r,true):=by
 unfold hdrL at hh;cases hs0:stripL [120,32,61,32] l with
 | none=>rw[hs0] at hh;cases hh
 | some a=>
  rw[hs0] at hh;dsimp only at hh;have h1:tx.isPrefixOf l=true∧a=l.drop 4:=by
   unfold stripL at hs0
   split at hs0
   ·rename_i h;exact⟨h,(Option.some.inj hs0).symm⟩
   ·cases hs0
  by_cases ho:okN 9 (digRun a)=false
  ·rw[if_pos ho] at hh;cases hh
  rw[if_neg ho] at hh;cases hs1:stripL [44,32,121,32,61,32] (a.drop (digRun a).length) with
  | none=>rw[hs1] at hh;cases hh
  | some b=>
   rw[hs1] at hh;dsimp only at hh;by_cases ho2:okN 9 (digRun b)=false
   ·rw[if_pos ho2] at hh;cases hh
   rw[if_neg ho2] at hh;cases hs2:stripL [44,32,114,117,108,101,32,61,32] (b.drop (digRun b).length) with
   | none=>rw[hs2] at hh;cases hh
   | some r'=>
    rw[hs2] at hh;dsimp only at hh;have h2:=Option.some.inj hh;injection h2 with e1 h2
    injection h2 with e2 e3
    subst e1 e2 e3;have hc1:Lib.cut a ty=(digRun a,b,true):=cut_hit hs1;have hc2:Lib.cut b tr=(digRun b,r',true):=cut_hit hs2;unfold hdrT;rw[if_neg (by unfold Lib.hasPrefix;rw[h1.1];simp),show Lib.trimPrefix l tx=a by unfold Lib.trimPrefix Lib.hasPrefix;rw[if_pos h1.1,h1.2];rfl,hc1];dsimp only;rw[if_neg (by simp),hc2];dsimp only;rw[numT_run,numT_run,if_pos (by simpa using ho),if_pos (by simpa using ho2)];rfl
theorem line_split (l:List UInt8):l=lineOf l ++ l.drop (lineOf l).length:=by
 obtain⟨t,ht⟩:∃ t,lineOf l ++ t=l:=List.takeWhile_prefix (l:=l) (fun c=>c != 10);have h2:l.drop (lineOf l).length=(lineOf l ++ t).drop (lineOf l).length:=by rw[ht]
 rw[h2,List.drop_left];exact ht.symm
theorem line_no:∀ (l:List UInt8),∀ c ∈ lineOf l,c≠10
 | [],c,h=>by cases h
 | a :: l,c,h=>by
  unfold lineOf at h;rw[List.takeWhile_cons] at h
  split at h
  ·rename_i ha;rcases List.mem_cons.1 h with rfl | h
   ·simpa using ha
   ·exact line_no l c h
  ·cases h
end Go.Proofs.YtcfelnhmifkelaaGreatDoor
