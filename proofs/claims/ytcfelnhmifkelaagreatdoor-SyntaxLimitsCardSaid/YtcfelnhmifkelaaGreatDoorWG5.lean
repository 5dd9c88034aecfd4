/-
  texts NumbR HdrP Hdr: parts of the proof; conditions stand with each theorem.
-/
import Derived.Test.YtcfelnhmifkelaaGreatDoorWG4
import Derived.Test.YtcfelnhmifkelaaGreatDoorWShelf
import Derived.Test.YtcfelnhmifkelaaGreatDoorWG0
namespace Go.Proofs.YtcfelnhmifkelaaGreatDoor
open Go.RowKit
set_option maxRecDepth 100000
set_option linter.unusedVariables false
set_option linter.unusedSimpArgs false


def tx:List UInt8:=[120,32,61,32]
def ty:List UInt8:=[44,32,121,32,61,32]
def tr:List UInt8:=[44,32,114,117,108,101,32,61,32]
def hdrT (l:List UInt8):Int × Int × List UInt8 × Bool:=
 if Lib.hasPrefix l tx=false then (0,0,[],false)
 else if (Lib.cut (Lib.trimPrefix l tx) ty).2.2=false then (0,0,[],false)
 else ((numT 9 (Lib.cut (Lib.trimPrefix l tx) ty).1).1,(numT 9 (Lib.cut (Lib.cut (Lib.trimPrefix l tx) ty).2.1 tr).1).1,(Lib.cut (Lib.cut (Lib.trimPrefix l tx) ty).2.1 tr).2.1,
  (Lib.cut (Lib.cut (Lib.trimPrefix l tx) ty).2.1 tr).2.2 && (numT 9 (Lib.cut (Lib.trimPrefix l tx) ty).1).2 && (numT 9 (Lib.cut (Lib.cut (Lib.trimPrefix l tx) ty).2.1 tr).1).2)
theorem numT_run (a:List UInt8):numT 9 (digRun a)=if okN 9 (digRun a)=true then (numL (digRun a),true) else (0,false):=by
 unfold numT;have h:(digRun a).all isDig=true:=by rw[List.all_eq_true];exact digRun_all a
 by_cases h2:okN 9 (digRun a)=true
 ·rw[if_pos ⟨h2,h⟩,if_pos h2]
 ·rw[if_neg (fun h3=>h2 h3.1),if_neg h2]
theorem run_get {a:List UInt8}{j:Nat}(h:j < (digRun a).length):∃ c,a[j]?=some c∧isDig c=true:=by
 have h1:=digRun_split a;refine⟨(digRun a)[j],?_,digRun_all a _ (List.getElem_mem h)⟩
 conv=>lhs;rw[h1]
 rw[List.getElem?_append_left h,List.getElem?_eq_getElem h]
theorem run_of_take:∀ {a:List UInt8}{i:Nat}{c:UInt8},(∀ x ∈ a.take i,isDig x=true)→a[i]?=some c→isDig c=false→digRun a=a.take i
 | [],i,c,_,h,_=>by simp at h
 | b :: a,0,c,_,h,hc=>by
  simp at h;subst h;simp[digRun,hc]
 | b :: a,i+1,c,ha,h,hc=>by
  have hb:isDig b=true:=ha b (by simp);have:=run_of_take (a:=a) (i:=i) (fun x hx=>ha x (by simp[hx])) (by simpa using h) hc;simp[digRun,hb,this]
theorem cut_hit {a t b:List UInt8}(hs:stripL (44 :: t) (a.drop (digRun a).length)=some b):Lib.cut a (44 :: t)=(digRun a,b,true):=by
 unfold stripL at hs
 split at hs
 ·rename_i hp;have hb:=Option.some.inj hs;have hi:Lib.index a (44 :: t)=((digRun a).length:Nat):=by
   refine Lib.index_first (digRun_le a) hp ?_;intro j hj;cases ho:Lib.occAt a (44 :: t) j
   ·rfl
   ·obtain⟨c,h1,h2⟩:=run_get hj;rw[Lib.occAt_head rfl ho] at h1;cases h1
    revert h2
    decide
  unfold Lib.cut;rw[hi,if_pos (by omega)];refine Prod.ext ?_ (Prod.ext ?_ rfl)
  ·show a.take _=digRun a;rw[Int.toNat_natCast];have h1:=digRun_split a;have h2:a.take (digRun a).length=(digRun a ++ a.drop (digRun a).length).take (digRun a).length:=by rw[← h1]
   rw[h2,List.take_left]
  ·show a.drop _=b;rw[← hb,List.drop_drop,Int.toNat_natCast]
 ·cases hs
theorem cut_occ {a sep:List UInt8}(h:0≤Lib.index a sep)(hn:sep≠[]):Lib.occAt a sep (Lib.index a sep).toNat=true:=by
 by_cases hall:∀ j,j≤a.length→Lib.occAt a sep j=false
 ·rw[Lib.index_none hall] at h;omega
 ·have hex:∃ j,j≤a.length∧Lib.occAt a sep j=true:=by
   refine Classical.byContradiction fun hne=>hall fun j hj=>?_;cases ho:Lib.occAt a sep j
   ·rfl
   ·exact absurd ⟨j,hj,ho⟩ hne
  have key:∀ n j,j≤n→j≤a.length→Lib.occAt a sep j=true→∃ i,i≤a.length∧Lib.occAt a sep i=true∧∀ k,k < i→Lib.occAt a sep k=false:=by
   intro n;induction n with
   | zero=>
    intro j hj hl ho;obtain rfl:j=0:=by omega
    exact⟨0,hl,ho,fun k hk=>absurd hk (by omega)⟩
   | succ n ih=>
    intro j hj hl ho;by_cases hex2:∃ k,k < j∧Lib.occAt a sep k=true
    ·obtain⟨k,hk,hk2⟩:=hex2;exact ih k (by omega) (by omega) hk2
    ·refine⟨j,hl,ho,fun k hk=>?_⟩;cases hk2:Lib.occAt a sep k
     ·rfl
     ·exact absurd ⟨k,hk,hk2⟩ hex2
  obtain⟨j,hj,ho⟩:=hex;obtain⟨i,h1,h2,h3⟩:=key j j (Nat.le_refl _) hj ho;rw[Lib.index_first h1 h2 h3,Int.toNat_natCast];exact h2
theorem cut_miss {a t:List UInt8}(hs:stripL (44 :: t) (a.drop (digRun a).length)=none) (hc:(Lib.cut a (44 :: t)).2.2=true):(numT 9 (Lib.cut a (44 :: t)).1).2=false:=by
 cases hn:(numT 9 (Lib.cut a (44 :: t)).1).2
 ·rfl
 ·exfalso;unfold Lib.cut at hc hn
  split at hc
  ·rename_i h0;rw[if_pos h0] at hn;dsimp only at hn;have ho:=cut_occ h0 (by simp);have hd:∀ x ∈ a.take (Lib.index a (44 :: t)).toNat,isDig x=true:=by
    unfold numT at hn
    split at hn
    ·rename_i h2;exact List.all_eq_true.1 h2.2
    ·cases hn
   have hr:=run_of_take hd (Lib.occAt_head rfl ho) (by decide);have hlen:(digRun a).length=(Lib.index a (44 :: t)).toNat:=by
    rw[hr,List.length_take];have:=Lib.occAt_room ho;rcases this with h | h
    ·omega
    ·simp at h
   unfold stripL at hs;rw[hlen,if_pos (show (44 :: t).isPrefixOf (a.drop (Lib.index a (44 :: t)).toNat)=true from ho)] at hs;cases hs
  ·cases hc
theorem hdrT_none {l:List UInt8}(h:hdrL l=none):(hdrT l).2.2.2=false:=by
 unfold hdrT;by_cases h1:Lib.hasPrefix l tx=false
 ·rw[if_pos h1]
 rw[if_neg h1];by_cases h2:(Lib.cut (Lib.trimPrefix l tx) ty).2.2=false
 ·rw[if_pos h2]
 rw[if_neg h2];have h1':tx.isPrefixOf l=true:=by simpa [Lib.hasPrefix] using h1
 have ht:Lib.trimPrefix l tx=l.drop 4:=by
  unfold Lib.trimPrefix Lib.hasPrefix;rw[if_pos h1'];rfl
 rw[ht] at h2 ⊢;unfold hdrL at h;rw[show stripL [120,32,61,32] l=some (l.drop 4) from by unfold stripL;exact if_pos h1'] at h;dsimp only at h ⊢;cases hs:stripL ty ((l.drop 4).drop (digRun (l.drop 4)).length) with
 | none=>
  have hm:(numT 9 (Lib.cut (l.drop 4) ty).1).2=false:=cut_miss hs (by simpa [ty] using h2);rw[hm]
  simp
 | some b=>
  have hc:Lib.cut (l.drop 4) ty=(digRun (l.drop 4),b,true):=cut_hit hs;rw[hc];dsimp only;rw[numT_run];by_cases ho:okN 9 (digRun (l.drop 4))=false
  ·rw[if_neg (by rw[ho];simp)]
   simp
  rw[if_neg ho] at h;rw[show stripL [44,32,121,32,61,32] ((l.drop 4).drop (digRun (l.drop 4)).length)=some b from hs] at h;dsimp only at h;cases hs2:stripL tr (b.drop (digRun b).length) with
  | none=>
   cases hcc:(Lib.cut b tr).2.2
   ·simp
   ·have hm:(numT 9 (Lib.cut b tr).1).2=false:=cut_miss hs2 hcc;rw[hm]
    simp
  | some r=>
   have hc2:Lib.cut b tr=(digRun b,r,true):=cut_hit hs2;rw[hc2];dsimp only;rw[numT_run];by_cases ho2:okN 9 (digRun b)=false
   ·rw[if_neg (c:=okN 9 (digRun b)=true) (by rw[ho2];simp)]
    simp
   rw[if_neg ho2] at h;rw[show stripL [44,32,114,117,108,101,32,61,32] (b.drop (digRun b).length)=some r from hs2] at h;cases h
theorem hdrT_some {l r:List UInt8}{w h:Int}(hh:hdrL l=some (w,h,r)):hdrT l=(w,h,r,true):=by
 unfold hdrL at hh;cases hs0:stripL [120,32,61,32] l with
 | none=>rw[hs0] at hh;cases hh
 | some a=>
  rw[hs0] at hh;dsimp only at hh;have h1:tx.isPrefixOf l=true∧a=l.drop 4:=by
   unfold stripL at hs0
   split at hs0
   ·rename_i h;exact⟨h,(Option.some.inj hs0).symm⟩
   ·cases hs0
  by_cases ho:okN 9 (digRun a)=false
  ·rw[if_pos ho] at hh;cases hh
  rw[if_neg ho] at hh;cases hs1:stripL [44,32,121,32,61,32] (a.drop (digRun a).length) with
  | none=>rw[hs1] at hh;cases hh
  | some b=>
   rw[hs1] at hh;dsimp only at hh;by_cases ho2:okN 9 (digRun b)=false
   ·rw[if_pos ho2] at hh;cases hh
   rw[if_neg ho2] at hh;cases hs2:stripL [44,32,114,117,108,101,32,61,32] (b.drop (digRun b).length) with
   | none=>rw[hs2] at hh;cases hh
   | some r'=>
    rw[hs2] at hh;dsimp only at hh;have h2:=Option.some.inj hh;injection h2 with e1 h2
    injection h2 with e2 e3
    subst e1 e2 e3;have hc1:Lib.cut a ty=(digRun a,b,true):=cut_hit hs1;have hc2:Lib.cut b tr=(digRun b,r',true):=cut_hit hs2;unfold hdrT;rw[if_neg (by unfold Lib.hasPrefix;rw[h1.1];simp),show Lib.trimPrefix l tx=a by unfold Lib.trimPrefix Lib.hasPrefix;rw[if_pos h1.1,h1.2];rfl,hc1];dsimp only;rw[if_neg (by simp),hc2];dsimp only;rw[numT_run,numT_run,if_pos (by simpa using ho),if_pos (by simpa using ho2)];rfl
theorem line_split (l:List UInt8):l=lineOf l ++ l.drop (lineOf l).length:=by
 obtain⟨t,ht⟩:∃ t,lineOf l ++ t=l:=List.takeWhile_prefix (l:=l) (fun c=>c != 10);have h2:l.drop (lineOf l).length=(lineOf l ++ t).drop (lineOf l).length:=by rw[ht]
 rw[h2,List.drop_left];exact ht.symm
theorem line_no:∀ (l:List UInt8),∀ c ∈ lineOf l,c≠10
 | [],c,h=>by cases h
 | a :: l,c,h=>by
  unfold lineOf at h;rw[List.takeWhile_cons] at h
  split at h
  ·rename_i ha;rcases List.mem_cons.1 h with rfl | h
   ·simpa using ha
   ·exact line_no l c h
  ·cases h
end Go.Proofs.YtcfelnhmifkelaaGreatDoor
namespace Go.Proofs.YtcfelnhmifkelaaGreatDoor
open Lib(hid)
open Go.RowKit
set_option maxRecDepth 100000
set_option linter.unusedVariables false
set_option linter.unusedSimpArgs false

theorem cut_len (a sep:List UInt8):(Lib.cut a sep).1.length≤a.length∧(Lib.cut a sep).2.1.length≤a.length:=by
 unfold Lib.cut
 split
 ·refine⟨?_,?_⟩
  ·show (a.take _).length≤_;rw[List.length_take];omega
  ·show (a.drop _).length≤_;rw[List.length_drop];omega
 ·exact⟨Nat.le_refl _,Nat.zero_le _⟩
theorem trim_len (a p:List UInt8):(Lib.trimPrefix a p).length≤a.length:=by
 unfold Lib.trimPrefix
 split
 ·rw[List.length_drop];omega
 ·exact Nat.le_refl _
def GCell (w:World):Prop:=∃ m,w.cell? ⟨0,0,none⟩=some (.int .i64 m)
theorem GCell.ext {w w':World}(h:GCell w)(hb:Below w.heap.size w w'):GCell w':=by
 obtain⟨m,hm⟩:=h;exact⟨m,by rw[hb.cell (World.block_lt_of_cell? _ _ hm)];exact hm⟩
theorem cut_any (l sep:List UInt8)(w:World)(hg:GCell w)(hs:l.length < 4294967281):Calls Tryz.prog 33 #[.string ⟨l.toArray⟩,.string ⟨sep.toArray⟩] w fun e w'=>e=.returned (.tuple #[.string ⟨(Lib.cut l sep).1.toArray⟩,.string ⟨(Lib.cut l sep).2.1.toArray⟩,.bool (Lib.cut l sep).2.2])∧Below w.heap.size w w':=by
 obtain⟨m,hm⟩:=hg;refine (Tryz.strings_Cut ⟨l.toArray⟩ ⟨sep.toArray⟩ m w (by show l.toArray.size < _;simpa using hs) hm).mono ?_;rintro e w' ⟨rfl,n,rfl⟩;exact⟨rfl,⟨rfl,rfl,rfl,Nat.le_refl _,fun _ _=>rfl⟩⟩
theorem num_any (l:List UInt8)(d:Nat)(w:World)(hd:d≤9)(hs:l.length≤2147483648):Calls Tryz.prog 137 #[.string ⟨l.toArray⟩,.int .i64 d] w fun e w'=>e=.returned (.tuple #[.int .i64 (numT d l).1,.bool (numT d l).2])∧Below w.heap.size w w':=
 number_any ⟨l.toArray⟩ d w hd (by show l.toArray.size≤_;simpa using hs)
set_option maxHeartbeats 2000000 in
theorem header_any (l:List UInt8)(w:World)(hg:GCell w)(hs:l.length≤65536) :
  Calls Tryz.prog 104 #[.string ⟨l.toArray⟩] w fun e w'=>e=.returned (.tuple #[.int .i64 (hdrT l).1,.int .i64 (hdrT l).2.1,.string ⟨(hdrT l).2.2.1.toArray⟩,.bool (hdrT l).2.2.2])∧Below w.heap.size w w':=by
 have HP:Hid (Calls Tryz.prog 136 #[.string ⟨l.toArray⟩,.string ⟨#[120,32,61,32]⟩] w fun e w'=>e=.returned (.tuple #[.string ⟨(Lib.trimPrefix l tx).toArray⟩,.bool (Lib.hasPrefix l tx)])∧w'=w):=hid (Tryz.strings_CutPrefix ⟨l.toArray⟩ ⟨tx.toArray⟩ w);have h1:=trim_len l tx;obtain⟨a,ha⟩:∃ a,a=Lib.trimPrefix l tx:=⟨_,rfl⟩
 rw[← ha] at h1 HP;cases hp:Lib.hasPrefix l tx
 ·have HN:Hid (hdrT l=(0,0,[],false)):=hid (by unfold hdrT;rw[if_pos hp]);rw[hp] at HP;clear hp;go_enter Tryz.func104,Tryz.ntmps104;go_wp2_with fail;refine HP.out.mono ?_;rintro e w1 ⟨rfl,hw1⟩;subst hw1;go_wp2;refine bodyPost_ret (v:=.tuple #[.int .i64 0,.int .i64 0,.string ⟨#[]⟩,.bool false]) (by simp[results,Tryz.results104,go_sem]) rfl ?_;rw[HN.out];exact⟨rfl,Below.refl _ _⟩
 have HPT:=hid hp;rw[hp] at HP;have HC:Hid (Calls Tryz.prog 33 #[.string ⟨a.toArray⟩,.string ⟨#[44,32,121,32,61,32]⟩] w fun e w'=>e=.returned (.tuple #[.string ⟨(Lib.cut a ty).1.toArray⟩,.string ⟨(Lib.cut a ty).2.1.toArray⟩,.bool (Lib.cut a ty).2.2])∧Below w.heap.size w w'):=hid (cut_any a ty w hg (by omega));have h2:=cut_len a ty;have HT:Hid (hdrT l=if (Lib.cut a ty).2.2=false then (0,0,[],false) else ((numT 9 (Lib.cut a ty).1).1,(numT 9 (Lib.cut (Lib.cut a ty).2.1 tr).1).1,(Lib.cut (Lib.cut a ty).2.1 tr).2.1,(Lib.cut (Lib.cut a ty).2.1 tr).2.2 && (numT 9 (Lib.cut a ty).1).2 && (numT 9 (Lib.cut (Lib.cut a ty).2.1 tr).1).2)):=hid (by
  unfold hdrT;rw[if_neg (by rw[HPT.out];simp),← ha])
 clear hp ha;obtain⟨c1,hc1⟩:∃ c,c=Lib.cut a ty:=⟨_,rfl⟩
 rw[← hc1] at HC HT h2;clear hc1;obtain⟨u,v,ok⟩:=c1;dsimp only at HC HT h2;cases ok
 ·have HN:Hid (hdrT l=(0,0,[],false)):=hid (by rw[HT.out,if_pos rfl]);go_enter Tryz.func104,Tryz.ntmps104;go_wp2_with fail;refine HP.out.mono ?_;rintro e w1 ⟨rfl,hw1⟩;have hw2:=hw1.symm;clear hw1;subst hw2;go_wp2_with fail;refine HC.out.mono ?_;rintro e w1 ⟨rfl,hb1⟩;have HB:=hid hb1;clear hb1;go_wp2;refine bodyPost_ret (v:=.tuple #[.int .i64 0,.int .i64 0,.string ⟨#[]⟩,.bool false]) (by simp[results,Tryz.results104,go_sem]) rfl ?_;rw[HN.out];exact⟨rfl,HB.out⟩
 rw[if_neg (by simp)] at HT;have HC2:Hid (∀ w',Below w.heap.size w w'→Calls Tryz.prog 33 #[.string ⟨v.toArray⟩,.string ⟨#[44,32,114,117,108,101,32,61,32]⟩] w' fun e w''=>e=.returned (.tuple #[.string ⟨(Lib.cut v tr).1.toArray⟩,.string ⟨(Lib.cut v tr).2.1.toArray⟩,.bool (Lib.cut v tr).2.2])∧Below w'.heap.size w' w''):=hid (fun w' hb=>cut_any v tr w' (hg.ext hb) (by omega));have h3:=cut_len v tr;obtain⟨c2,hc2⟩:∃ c,c=Lib.cut v tr:=⟨_,rfl⟩
 rw[← hc2] at HC2 HT h3;clear hc2;obtain⟨x,r,ok⟩:=c2;dsimp only at HC2 HT h3;have HN1:=hid (fun w'=>num_any u 9 w' (by omega) (by omega));have HN2:=hid (fun w'=>num_any x 9 w' (by omega) (by omega));obtain⟨n1,hn1⟩:∃ n,n=numT 9 u:=⟨_,rfl⟩
 obtain⟨n2,hn2⟩:∃ n,n=numT 9 x:=⟨_,rfl⟩
 rw[← hn1] at HN1 HT;rw[← hn2] at HN2 HT;clear hn1 hn2 h1 h2 h3;obtain⟨n1,b1⟩:=n1;obtain⟨n2,b2⟩:=n2;dsimp only at HN1 HN2 HT;go_enter Tryz.func104,Tryz.ntmps104;go_wp2_with fail;refine HP.out.mono ?_;rintro e w1 ⟨rfl,hw1⟩;have hw2:=hw1.symm;clear hw1;subst hw2;go_wp2_with fail;refine HC.out.mono ?_;rintro e w1 ⟨rfl,hb1⟩;have HB1:=hid hb1;clear hb1;have HD2:=hid (HC2.out w1 HB1.out);go_wp2_with fail;refine HD2.out.mono ?_;rintro e w2 ⟨rfl,hb2⟩;have HB2:=hid (HB1.out.trans (hb2.mono HB1.out.size));clear hb2;have HD3:Hid (Calls Tryz.prog 137 #[.string ⟨u.toArray⟩,.int .i64 9] w2 fun e w'=>e=.returned (.tuple #[.int .i64 n1,.bool b1])∧Below w2.heap.size w2 w'):=hid (HN1.out w2);go_wp2_with fail;refine HD3.out.mono ?_;rintro e w3 ⟨rfl,hb3⟩;have HB3:=hid (HB2.out.trans (hb3.mono HB2.out.size));clear hb3;have HD4:Hid (Calls Tryz.prog 137 #[.string ⟨x.toArray⟩,.int .i64 9] w3 fun e w'=>e=.returned (.tuple #[.int .i64 n2,.bool b2])∧Below w3.heap.size w3 w'):=hid (HN2.out w3);go_wp2_with fail;refine HD4.out.mono ?_;rintro e w4 ⟨rfl,hb4⟩;have HB4:=hid (HB3.out.trans (hb4.mono HB3.out.size));clear hb4;cases ok <;> cases b1 <;> cases b2
 ·go_wp2;refine bodyPost_ret (v:=.tuple #[.int .i64 n1,.int .i64 n2,.string ⟨r.toArray⟩,.bool false]) (by simp[results,Tryz.results104,go_sem]) rfl ?_;rw[HT.out];exact⟨rfl,HB4.out⟩
 ·go_wp2;refine bodyPost_ret (v:=.tuple #[.int .i64 n1,.int .i64 n2,.string ⟨r.toArray⟩,.bool false]) (by simp[results,Tryz.results104,go_sem]) rfl ?_;rw[HT.out];exact⟨rfl,HB4.out⟩
 ·go_wp2;refine bodyPost_ret (v:=.tuple #[.int .i64 n1,.int .i64 n2,.string ⟨r.toArray⟩,.bool false]) (by simp[results,Tryz.results104,go_sem]) rfl ?_;rw[HT.out];exact⟨rfl,HB4.out⟩
 ·go_wp2;refine bodyPost_ret (v:=.tuple #[.int .i64 n1,.int .i64 n2,.string ⟨r.toArray⟩,.bool false]) (by simp[results,Tryz.results104,go_sem]) rfl ?_;rw[HT.out];exact⟨rfl,HB4.out⟩
 ·go_wp2;refine bodyPost_ret (v:=.tuple #[.int .i64 n1,.int .i64 n2,.string ⟨r.toArray⟩,.bool false]) (by simp[results,Tryz.results104,go_sem]) rfl ?_;rw[HT.out];exact⟨rfl,HB4.out⟩
 ·go_wp2;refine bodyPost_ret (v:=.tuple #[.int .i64 n1,.int .i64 n2,.string ⟨r.toArray⟩,.bool false]) (by simp[results,Tryz.results104,go_sem]) rfl ?_;rw[HT.out];exact⟨rfl,HB4.out⟩
 ·go_wp2;refine bodyPost_ret (v:=.tuple #[.int .i64 n1,.int .i64 n2,.string ⟨r.toArray⟩,.bool false]) (by simp[results,Tryz.results104,go_sem]) rfl ?_;rw[HT.out];exact⟨rfl,HB4.out⟩
 ·go_wp2;refine bodyPost_ret (v:=.tuple #[.int .i64 n1,.int .i64 n2,.string ⟨r.toArray⟩,.bool true]) (by simp[results,Tryz.results104,go_sem]) rfl ?_;rw[HT.out];exact⟨rfl,HB4.out⟩
end Go.Proofs.YtcfelnhmifkelaaGreatDoor
