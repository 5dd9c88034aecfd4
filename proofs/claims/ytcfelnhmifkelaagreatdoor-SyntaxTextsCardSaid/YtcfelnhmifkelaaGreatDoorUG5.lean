/-
  texts Dec BldK Txt0 TxtP Txt: parts of the proof; conditions stand with each theorem.
-/
import Derived.Test.YtcfelnhmifkelaaGreatDoorUG4
import Derived.Test.YtcfelnhmifkelaaGreatDoorUG0
import Derived.Lib.SmallJoins
namespace Go.Proofs.YtcfelnhmifkelaaGreatDoor
open Lib(hid)
open Go.RowKit
set_option maxRecDepth 100000
set_option linter.unusedVariables false
set_option linter.unusedSimpArgs false

theorem dec_small {n:Nat}(h:n < 10):Lib.decDigits n=[UInt8.ofNat (48+n)]:=by rw[Lib.decDigits,dif_pos h]
theorem dec_big {n:Nat}(h:¬ n < 10):Lib.decDigits n=Lib.decDigits (n / 10) ++ Lib.decDigits (n % 10):=by
 rw[Lib.decDigits,dif_neg h,dec_small (n:=n % 10) (by omega)]
theorem dec_len:∀ {k:Nat}(n:Nat),n < 10 ^ k→(Lib.decDigits n).length≤k+1
 | 0,n,h=>by
  rw[dec_small (by omega)];simp
 | k+1,n,h=>by
  by_cases hs:n < 10
  ·rw[dec_small hs];simp
  ·rw[Lib.decDigits,dif_neg hs,List.length_append];have:=dec_len (k:=k) (n / 10) (by rw[Nat.pow_succ] at h;omega)
   simp;omega
theorem dec_len1 {k:Nat}(hk:1≤k)(n:Nat)(h:n < 10 ^ k):(Lib.decDigits n).length≤k:=by
 induction k generalizing n with
 | zero=>omega
 | succ k ih=>
  by_cases hs:n < 10
  ·rw[dec_small hs];simp
  ·by_cases hk0:k=0
   ·subst hk0;simp at h;omega
   ·rw[Lib.decDigits,dif_neg hs,List.length_append];have:=ih (by omega) (n / 10) (by rw[Nat.pow_succ] at h;omega)
    simp;omega
theorem bytes_app (a b:List UInt8):(⟨a.toArray⟩:ByteArray) ++ ⟨b.toArray⟩=⟨(a ++ b).toArray⟩:=by
 rw[ByteArray.ext_iff,ByteArray.data_append]
 simp
theorem itoa_nat (n:Nat):Lib.itoa (n:Int)=Lib.decDigits n:=by
 unfold Lib.itoa;rw[if_neg (by omega)];rfl
set_option maxHeartbeats 1600000 in
theorem decimal_any:∀ (n:Nat)(w:World),n≤9223372036854775807→Calls Tryz.prog 117 #[.int .i64 n] w fun e w'=>e=.returned (.string ⟨(Lib.decDigits n).toArray⟩)∧w'=w:=by
 intro n;induction n using Nat.strongRecOn with
 | ind n ih=>
  intro w hn;by_cases h:n < 10
  ·have HN:=hid (dec_small h);obtain rfl | rfl | rfl | rfl | rfl | rfl | rfl | rfl | rfl | rfl:n=0∨n=1∨n=2∨n=3∨n=4∨n=5∨n=6∨n=7∨n=8∨n=9:=by omega
   all_goals
    clear ih;go_enter Tryz.func117,Tryz.ntmps117;go_wp2;go_ret;rw[HN.out];exact⟨rfl,rfl⟩
  ·have IH1:Hid (Calls Tryz.prog 117 #[.int .i64 ((n:Int) / 10)] w fun e w'=>e=.returned (.string ⟨(Lib.decDigits (n / 10)).toArray⟩)∧w'=w):=hid (ih (n / 10) (by omega) w (by omega));have IH2:Hid (Calls Tryz.prog 117 #[.int .i64 ((n:Int) % 10)] w fun e w'=>e=.returned (.string ⟨(Lib.decDigits (n % 10)).toArray⟩)∧w'=w):=hid (ih (n % 10) (by omega) w (by omega));have HN:=hid (dec_big h);have d0:decide ((n:Int) < 10)=false:=decide_eq_false (by omega);have hq:wrap64 (Int.tdiv (n:Int) 10)=((n / 10:Nat):Int):=by rw[Int.tdiv_eq_ediv_of_nonneg (by omega)];unfold wrap64;omega
   have hr:wrap64 (Int.tmod (n:Int) 10)=((n % 10:Nat):Int):=by rw[Int.tmod_eq_emod_of_nonneg (by omega)];unfold wrap64;omega
   have hl1:=dec_len (k:=20) (n / 10) (by omega);have hl2:=dec_len (k:=20) (n % 10) (by omega);have hle:¬9223372036854775807 < (Lib.decDigits (n / 10)).length+(Lib.decDigits (n % 10)).length:=by omega
   clear ih hl1 hl2;go_enter Tryz.func117,Tryz.ntmps117;go_wp2_with fail;refine IH1.out.mono ?_;rintro e w1 ⟨rfl,hw1⟩;subst hw1;go_wp2_with fail;refine IH2.out.mono ?_;rintro e w2 ⟨rfl,hw2⟩;subst hw2;go_wp2;go_ret;rw[HN.out];exact⟨by rw[bytes_app];rfl,rfl⟩
def itemC (two:Bool)(r:Int × Int):List UInt8:=(if 1 < r.1 then Lib.itoa r.1 else []) ++ letC r.2 two
set_option maxHeartbeats 8000000 in
theorem item_any (a k top:Int)(w:World)(ha:a≤9223372036854775807)(hk:k≤7)(hk2:top≤1→k≤1) :
  Calls Tryz.prog 118 #[.agg #[.int .i64 a,.int .i64 k],.int .i64 top] w fun e w'=>e=.returned (.string ⟨(itemC (decide (top≤1)) (a,k)).toArray⟩)∧Below w.heap.size w w':=by
 obtain⟨w1,hw1⟩:∃ w1,w1=w.alloc (.cells #[.int .i64 a,.int .i64 k] 107):=⟨_,rfl⟩
 have b0:=below_new w (.cells #[.int .i64 a,.int .i64 k] 107);have br:=Blk.new w 107 #[.int .i64 a,.int .i64 k];rw[← hw1] at b0 br;have r0:=br.cell_ 0 (.int .i64 a) rfl;have r1:=br.cell_ 1 (.int .i64 k) rfl;have HB:=hid b0;have HW:=hid hw1;clear b0 br hw1;by_cases h1:1 < a
 ·have HI:Hid (∀ k two,itemC two (a,k)=Lib.decDigits a.toNat ++ letC k two):=hid (by intro k two;unfold itemC;dsimp only;rw[if_pos h1];congr 1;rw[show a=((a.toNat:Nat):Int) by omega,itoa_nat];rfl);have HD:Hid (Calls Tryz.prog 117 #[.int .i64 a] w1 fun e w'=>e=.returned (.string ⟨(Lib.decDigits a.toNat).toArray⟩)∧w'=w1):=hid (by have:=decimal_any a.toNat w1 (by omega);rwa [show ((a.toNat:Nat):Int)=a by omega] at this);have hl0:=dec_len1 (k:=19) (by omega) a.toNat (by omega);have hle:¬9223372036854775807 < (Lib.decDigits a.toNat).length+1:=by omega
  have d1:decide (1 < a)=true:=decide_eq_true h1;clear hl0;by_cases h2:k < 0
  ·have d2:decide (k < 0)=true:=decide_eq_true h2;have HL:Hid (∀ two,letC k two=[36]):=hid (by intro two;unfold letC;rw[if_pos h2]);go_enter Tryz.func118,Tryz.ntmps118;go_upto_region 2 with fail
   rw[← HW.out];go_wp2_with fail;refine HD.out.mono ?_;rintro e w2 ⟨rfl,hw2⟩;subst hw2;go_wp2;go_ret;refine⟨?_,HB.out⟩;rw[HI.out,HL.out,bytes_app];rfl
  ·by_cases h3:top≤1
   ·have d3:decide (top≤1)=true:=decide_eq_true h3;obtain rfl | rfl:k=0∨k=1:=by have:=hk2 h3;omega
    all_goals
     rw[d3];go_enter Tryz.func118,Tryz.ntmps118;go_upto_region 2 with fail
     rw[← HW.out];go_wp2_with fail;refine HD.out.mono ?_;rintro e w2 ⟨rfl,hw2⟩;subst hw2;go_wp2;go_ret;refine⟨?_,HB.out⟩;rw[HI.out,bytes_app];rfl
   ·have d3:decide (top≤1)=false:=decide_eq_false h3;obtain rfl | rfl | rfl | rfl | rfl | rfl | rfl | rfl:k=0∨k=1∨k=2∨k=3∨k=4∨k=5∨k=6∨k=7:=by omega
    all_goals
     rw[d3];go_enter Tryz.func118,Tryz.ntmps118;go_upto_region 2 with fail
     rw[← HW.out];go_wp2_with fail;refine HD.out.mono ?_;rintro e w2 ⟨rfl,hw2⟩;subst hw2;go_wp2;go_ret;refine⟨?_,HB.out⟩;rw[HI.out,bytes_app];rfl
 ·have HI:Hid (∀ k two,itemC two (a,k)=letC k two):=hid (by intro k two;unfold itemC;dsimp only;rw[if_neg h1];rfl);have d1:decide (1 < a)=false:=decide_eq_false h1;by_cases h2:k < 0
  ·have d2:decide (k < 0)=true:=decide_eq_true h2;have HL:Hid (∀ two,letC k two=[36]):=hid (by intro two;unfold letC;rw[if_pos h2]);go_enter Tryz.func118,Tryz.ntmps118;go_upto_region 2 with fail
   rw[← HW.out];go_wp2;go_ret;refine⟨?_,HB.out⟩;rw[HI.out,HL.out];rfl
  ·by_cases h3:top≤1
   ·have d3:decide (top≤1)=true:=decide_eq_true h3;obtain rfl | rfl:k=0∨k=1:=by have:=hk2 h3;omega
    all_goals
     rw[d3];go_enter Tryz.func118,Tryz.ntmps118;go_upto_region 2 with fail
     rw[← HW.out];go_wp2;go_ret;refine⟨?_,HB.out⟩;rw[HI.out];rfl
   ·have d3:decide (top≤1)=false:=decide_eq_false h3;obtain rfl | rfl | rfl | rfl | rfl | rfl | rfl | rfl:k=0∨k=1∨k=2∨k=3∨k=4∨k=5∨k=6∨k=7:=by omega
    all_goals
     rw[d3];go_enter Tryz.func118,Tryz.ntmps118;go_upto_region 2 with fail
     rw[← HW.out];go_wp2;go_ret;refine⟨?_,HB.out⟩;rw[HI.out];rfl
end Go.Proofs.YtcfelnhmifkelaaGreatDoor
namespace Go.Proofs.YtcfelnhmifkelaaGreatDoor
set_option linter.unusedSimpArgs false
open Go.RowKit
set_option maxRecDepth 100000
set_option linter.unusedVariables false

def Kept (b:Nat)(w w':World):Prop:=∀ g t cs,5≠t→g≠b→Blk w g t cs→Blk w' g t cs
theorem Kept.refl (b:Nat)(w:World):Kept b w w:=fun _ _ _ _ _ h=>h
theorem Kept.setCell {b:Nat}{u w:World}(h:Kept b u w)(i:Nat)(x:Value):Kept b u (w.setCell ⟨b,i,none⟩ x):=fun g t cs h1 h2 h3=>(h g t cs h1 h2 h3).far h2 x
theorem copyCheckK_any (B b:Nat)(bs:List Value)(w:World)(h:Lib.IsBuilder 97 5 B b bs w) :
  Calls Tryz.prog 110 #[.pointer (some ⟨b,0,none⟩)] w fun e w'=>e=.returned (.tuple #[])∧(Lib.BuilderAt 97 5 B b (.pointer (some ⟨b,0,none⟩)) bs w'∧Below B w w'∧Kept b w w'):=by
 rcases h with h | h
 ·refine (copyCheck_fresh b w h.cell0 h.shape h.frozen0).mono ?_;rintro e w' ⟨rfl,rfl⟩;exact⟨rfl,h.used _,(Below.refl B w).setCell (p:=⟨b,0,none⟩) h.1 _,(Kept.refl b w).setCell 0 _⟩
 ·refine (copyCheck_used b w h.cell0).mono ?_;rintro e w' ⟨rfl,rfl⟩;exact⟨rfl,h,Below.refl B _,Kept.refl b _⟩
set_option maxHeartbeats 2000000 in
theorem writeByteK_any (B b:Nat)(bs:List Value)(c:Int)(w:World)(h:Lib.IsBuilder 97 5 B b bs w)(hlen:bs.length+1≤140737488355328)(hBw:B≤w.heap.size) :
  Calls Tryz.prog 75 #[.pointer (some ⟨b,0,none⟩),.int .u8 c] w fun e w'=>e=.returned .nilIface∧(Lib.BuilderAt 97 5 B b (.pointer (some ⟨b,0,none⟩)) (bs ++ [.int .u8 c]) w'∧Below B w w'∧Kept b w w'):=by
 obtain⟨i0,hi,hz0,hz1,hz2⟩:=info_parts Tryz.infoByte;go_enter Tryz.func75,Tryz.ntmps75;go_wp2_with (go_at_call 110;refine (copyCheckK_any B b bs _ h).mono ?_);rintro e w1 ⟨rfl,h1,hb1,hk1⟩;obtain⟨hB,v,hbk,hown,hne⟩:=h1;have c0:w1.cell? ⟨b,0,none⟩=some (.pointer (some ⟨b,0,none⟩)):=by rw[Lib.cell_of_heap hbk];rfl
 have c1:w1.cell? ⟨b,1,none⟩=some v:=by rw[Lib.cell_of_heap hbk];rfl
 go_wp2_with (at_builtin;refine wpList_append_own _ rfl _ _ 95 rfl B 5 i0 (.int .u8 0) 1 1 Tryz.underlying95 hi hz0 hz1 hz2 rfl (by decide) _ _ _ rfl (hown.alloc _) ⟨w1.heap.size,0,none⟩ 1 1 [.int .u8 c] rfl rfl ?c1 ?c2 ?c3 ?c4 ?c5 ?_)
 case c1=>
  intro j u hj
  match j,hj with
  | 0,hj=>simp at hj;subst hj;simp[Addr.add]
 case c2=>intro u hu;simp at hu;subst hu;rfl
 case c3=>unfold maxLen;omega
 case c4=>omega
 case c5=>have:=hb1.size;simp;omega
 intro v' w2 hown' hgrow _;have hlt:b < w1.heap.size:=by
  rcases Nat.lt_or_ge b w1.heap.size with h' | h'
  ·exact h'
  ·simp[Array.getElem?_eq_none h'] at hbk
 have hb2:w2.heap[b]?=some (.cells #[.pointer (some ⟨b,0,none⟩),v] 97 (0,0)):=by
  rw[hgrow.block b (by simp;omega) (fun e=>hne e.symm),Lib.alloc_old w1 _ b hlt];exact hbk
 have d0:w2.cell? ⟨b,0,none⟩=some (.pointer (some ⟨b,0,none⟩)):=by rw[Lib.cell_of_heap hb2];rfl
 have d1:w2.cell? ⟨b,1,none⟩=some v:=by rw[Lib.cell_of_heap hb2];rfl
 have f1:w2.frozen? ⟨b,1,none⟩=false:=Lib.frozen_of_heap hb2 1;obtain⟨g,cap,rfl⟩:∃ g cap,v'=.slice (some ⟨g,0,none⟩) (bs.length+1) cap:=by
  rcases hown'.2 with ⟨_,h0⟩ | ⟨g,cap,cur,hv,_⟩
  ·omega
  ·exact⟨g,cap,hv⟩
 go_wp2;go_ret;refine⟨rfl,?_,?_,?_⟩
 ·exact Lib.BuilderAt.put (T:=97) (e:=5) hB hb2 (bs':=bs ++ [.int .u8 c]) (by simpa using hown') (by decide)
 ·exact ((hb1.alloc (by have:=hb1.size;omega) _).grown hgrow (by have:=hb1.size;simp;omega) (fun k hk=>(hown.lt k hk).1)).setCell (p:=⟨b,1,none⟩) hB _
 ·intro g t cs h1 h2 h3;exact ((((hk1 g t cs h1 h2 h3).alloc _).grown hgrow (fun e=>own_blk_ne hown (hk1 g t cs h1 h2 h3) h1 e.symm)).far h2 _)
set_option maxHeartbeats 2000000 in
theorem writeStringK_any (B b:Nat)(bs:List Value)(s:ByteArray)(w:World)(h:Lib.IsBuilder 97 5 B b bs w)(hlen:bs.length+s.size≤140737488355328)(hBw:B≤w.heap.size) :
  Calls Tryz.prog 73 #[.pointer (some ⟨b,0,none⟩),.string s] w fun e w'=>e=.returned (.tuple #[.int .i64 s.size,.nilIface])∧(Lib.BuilderAt 97 5 B b (.pointer (some ⟨b,0,none⟩)) (bs ++ Lib.strCells s) w'∧Below B w w'∧Kept b w w'):=by
 obtain⟨i0,hi,hz0,hz1,hz2⟩:=info_parts Tryz.infoByte;go_enter Tryz.func73,Tryz.ntmps73;go_wp2_with (go_at_call 110;refine (copyCheckK_any B b bs _ h).mono ?_);rintro e w1 ⟨rfl,h1,hb1,hk1⟩;obtain⟨hB,v,hbk,hown,hne⟩:=h1;have c0:w1.cell? ⟨b,0,none⟩=some (.pointer (some ⟨b,0,none⟩)):=by rw[Lib.cell_of_heap hbk];rfl
 have c1:w1.cell? ⟨b,1,none⟩=some v:=by rw[Lib.cell_of_heap hbk];rfl
 go_wp2_with (at_builtin;refine Lib.wpList_append_own_string _ rfl _ _ 95 9 rfl B 5 i0 Tryz.underlying95 Tryz.underlying9 hi hz0 hz1 hz2 _ _ _ rfl hown s rfl ?c3 ?c4 ?c5 ?_)
 case c3=>unfold maxLen;omega
 case c4=>omega
 case c5=>have:=hb1.size;omega
 intro v' w2 hown' hgrow _;have hlt:b < w1.heap.size:=by
  rcases Nat.lt_or_ge b w1.heap.size with h' | h'
  ·exact h'
  ·simp[Array.getElem?_eq_none h'] at hbk
 have hb2:w2.heap[b]?=some (.cells #[.pointer (some ⟨b,0,none⟩),v] 97 (0,0)):=by
  rw[hgrow.block b hlt (fun e=>hne e.symm)];exact hbk
 have d0:w2.cell? ⟨b,0,none⟩=some (.pointer (some ⟨b,0,none⟩)):=by rw[Lib.cell_of_heap hb2];rfl
 have d1:w2.cell? ⟨b,1,none⟩=some v:=by rw[Lib.cell_of_heap hb2];rfl
 have f1:w2.frozen? ⟨b,1,none⟩=false:=Lib.frozen_of_heap hb2 1;obtain⟨ao,n',cap,rfl⟩:∃ ao n' cap,v'=.slice ao n' cap:=by
  rcases hown'.2 with ⟨hv,_⟩ | ⟨g,cap,cur,hv,_⟩
  ·exact⟨_,_,_,hv⟩
  ·exact⟨_,_,_,hv⟩
 go_wp2;go_ret2;refine⟨rfl,?_,?_,?_⟩
 ·exact Lib.BuilderAt.put (T:=97) (e:=5) hB hb2 (bs':=bs ++ Lib.strCells s) (by simpa [Lib.strCells_length] using hown') (by decide)
 ·exact (hb1.grown hgrow (by have:=hb1.size;omega) (fun k hk=>(hown.lt k hk).1)).setCell (p:=⟨b,1,none⟩) hB _
 ·intro g t cs h1 h2 h3;exact (((hk1 g t cs h1 h2 h3).grown hgrow (fun e=>own_blk_ne hown (hk1 g t cs h1 h2 h3) h1 e.symm)).far h2 _)
end Go.Proofs.YtcfelnhmifkelaaGreatDoor
namespace Go.Proofs.YtcfelnhmifkelaaGreatDoor
open Lib(hid)
open Go.RowKit
set_option maxRecDepth 100000
set_option linter.unusedVariables false
set_option linter.unusedSimpArgs false

def putL (t:List UInt8 × List UInt8)(s:List UInt8):List UInt8 × List UInt8:=if 70 < t.2.length+s.length then (t.1 ++ t.2 ++ [10],s) else (t.1,t.2 ++ s)
def headL (b:Bx)(rule:List UInt8):List UInt8:=[120,32,61,32] ++ Lib.itoa b.w ++ [44,32,121,32,61,32] ++ Lib.itoa b.h ++ [44,32,114,117,108,101,32,61,32] ++ rule ++ [10]
def itemsL (ps:List Cel):List (List UInt8):=(runsL ps).map (itemC (decide (topC ps≤1)))
def wrapL (h:List UInt8)(l:List (List UInt8)):List UInt8 × List UInt8:=l.foldl putL (h,[])
def endL (t:List UInt8 × List UInt8):List UInt8:=(putL t [33]).1 ++ (putL t [33]).2 ++ [10]
def fullT (ps:List Cel)(rule:List UInt8):List UInt8:=endL (wrapL (headL (boxC ps).1 rule) (itemsL ps))
def textL (ps:List Cel)(rule:List UInt8):List UInt8 × Int:=
 if rightC ps=false then ([],2) else if nameB rule=false then ([],7) else if 1048577 < (boxC ps).1.w∨1048577 < (boxC ps).1.h then ([],5)
 else if 65536 < (fullT ps rule).length then ([],6) else (fullT ps rule,0)
theorem builder_ext {T e:TypeId}{B b:Nat}{p:Value}{bs:List Value}{w w':World}(h:Lib.BuilderAt T e B b p bs w)(hb:Below w.heap.size w w'):Lib.BuilderAt T e B b p bs w':=by
 have hlt:=h.lt;obtain⟨hB,v,h1,h2,h3⟩:=h;exact⟨hB,v,by rw[hb.block b hlt];exact h1,own_below h2 hb,h3⟩
theorem own_far {base:Nat}{e:TypeId}{size n:Nat}{v:Value}{xs:List Value}{w:World}(h:w.ownsRow base e size v n xs){g:Nat}(hg:v.ownBlock≠some g)(i:Nat)(u:Value):(w.setCell ⟨g,i,none⟩ u).ownsRow base e size v n xs:=by
 obtain⟨h1,h2⟩:=h;refine⟨h1,?_⟩;rcases h2 with h2 | ⟨g',cap,cur,h3,h4,h5,h6⟩
 ·exact .inl h2
 ·refine .inr ⟨g',cap,cur,h3,h4,?_,h6⟩;subst h3;have hne:g'≠g:=by
   intro e';apply hg;rw[e'];rfl
  exact (Below.heap_setCell w ⟨g,i,none⟩ u g' hne).trans h5
theorem builder_far {T e t:TypeId}{B b g:Nat}{p:Value}{bs cs:List Value}{w:World}(h:Lib.BuilderAt T e B b p bs w)(hg:Blk w g t cs.toArray)(hne:g≠b)(ht:e≠t)(i:Nat)(u:Value):Lib.BuilderAt T e B b p bs (w.setCell ⟨g,i,none⟩ u):=by
 obtain⟨hB,v,h1,h2,h3⟩:=h;exact⟨hB,v,(Below.heap_setCell w ⟨g,i,none⟩ u b (fun e'=>hne e'.symm)).trans h1,own_far h2 (own_blk_ne h2 hg ht) i u,h3⟩
theorem put_len (t:List UInt8 × List UInt8)(s:List UInt8):(putL t s).1.length+(putL t s).2.length≤t.1.length+t.2.length+s.length+1:=by
 unfold putL
 split
 ·simp;omega
 ·simp;omega
theorem put_yes {t:List UInt8 × List UInt8}{s:List UInt8}(h:70 < t.2.length+s.length):putL t s=(t.1 ++ t.2 ++ [10],s):=by unfold putL;rw[if_pos h]
theorem put_no {t:List UInt8 × List UInt8}{s:List UInt8}(h:¬ 70 < t.2.length+s.length):putL t s=(t.1,t.2 ++ s):=by unfold putL;rw[if_neg h]
theorem sc_app (l s:List UInt8):Lib.byteCells l ++ Lib.strCells ⟨s.toArray⟩=Lib.byteCells (l ++ s):=by simp[Lib.byteCells,Lib.strCells]
theorem sc_nl (l:List UInt8):Lib.byteCells l ++ [.int .u8 10]=Lib.byteCells (l ++ [10]):=by simp[Lib.byteCells]
structure PutR (B b g:Nat)(t:List UInt8 × List UInt8)(w w':World):Prop where
 bld:Lib.BuilderAt 97 5 B b (.pointer (some ⟨b,0,none⟩)) (Lib.byteCells (t.1 ++ t.2)) w'
 used:Blk w' g 3 #[.int .i64 t.2.length]
 below:Below B w w'
 kept:∀ g' t' cs,5≠t'→g'≠b→g'≠g→Blk w g' t' cs→Blk w' g' t' cs
set_option maxHeartbeats 2000000 in
theorem put_any (B b g:Nat)(t:List UInt8 × List UInt8)(s:List UInt8)(w:World)(hI:Lib.IsBuilder 97 5 B b (Lib.byteCells (t.1 ++ t.2)) w) (hu:Blk w g 3 #[.int .i64 t.2.length])
  (hgb:g≠b) (hg:B≤g) (hBw:B≤w.heap.size) (hlen:t.1.length+t.2.length+s.length≤1000000) :
  Calls Tryz.prog 74 #[.string ⟨s.toArray⟩,.pointer (some ⟨g,0,none⟩),.pointer (some ⟨b,0,none⟩)] w fun e w'=>e=.returned (.tuple #[])∧PutR B b g (putL t s) w w':=by
 have hsz:(⟨s.toArray⟩:ByteArray).size=s.length:=by simp[ByteArray.size]
 have hwa:wrap64 ((t.2.length:Int)+(s.length:Int))=(t.2.length:Int)+(s.length:Int):=by unfold wrap64;omega
 have c0:=hu.cell_ 0 (.int .i64 t.2.length) rfl;have hpl:(t.1 ++ t.2).length≤1000000:=by simp;omega
 have HU:=hid hu;by_cases h1:70 < t.2.length+s.length
 ·have HP:=hid (put_yes (t:=t) (s:=s) (by omega));have d1:decide ((70:Int) < (t.2.length:Int)+(s.length:Int))=true:=decide_eq_true (by omega);have W1:=writeByteK_any B b (Lib.byteCells (t.1 ++ t.2)) 10 w hI (by rw[Lib.byteCells_length];omega) hBw;rw[sc_nl] at W1;have HW1:=hid W1;clear W1 hI hu;go_enter Tryz.func74,Tryz.ntmps74;go_wp2_with fail;refine HW1.out.mono ?_;rintro e w1 ⟨rfl,hb1,hbe1,hk1⟩;have hu1:=hk1 g _ _ (by decide) hgb HU.out;have f1:=hu1.frozen 0;have c1:=hu1.cell_ 0 (.int .i64 t.2.length) rfl;have hb2:=builder_far (cs:=[.int .i64 t.2.length]) hb1 hu1 hgb (by decide) 0 (.int .i64 0);have hu2:=hu1.set_ 0 (.int .i64 0);have HB1:=hid hbe1;have HK1:=hid hk1;clear hb1 hu1 c0 hbe1 hk1;have HS2:=hid (hu2);have W2:=writeStringK_any B b (Lib.byteCells (t.1 ++ t.2 ++ [10])) ⟨s.toArray⟩ _ (.inr hb2) (by rw[Lib.byteCells_length,hsz,List.length_append];simp;omega) (Nat.le_trans hBw (by have:=HB1.out.size;simpa [World.setCell] using this));rw[sc_app] at W2;have HW2:=hid W2;clear W2 hb2 hu2;go_wp2_with fail;refine HW2.out.mono ?_;rintro e w2 ⟨rfl,hb3,hbe3,hk3⟩;have hu3:=hk3 g _ _ (by decide) hgb HS2.out;have c3:=hu3.cell_ 0 (.int .i64 0) rfl;have f3:=hu3.frozen 0;have HB3:=hid hbe3;have HK3:=hid hk3;have HB:=hid hb3;have HU3:=hid hu3;clear hu3 hbe3 hk3 hb3 f1;go_wp2
  go_end0
  refine⟨rfl,?_⟩;rw[HP.out];refine⟨?_,?_,?_,?_⟩
  ·exact builder_far (cs:=[.int .i64 0]) HB.out HU3.out hgb (by decide) 0 _
  ·dsimp only;simpa using HU3.out.set_ 0 (.int .i64 s.length)
  ·exact ((HB1.out.setCell (p:=⟨g,0,none⟩) hg _).trans HB3.out).setCell (p:=⟨g,0,none⟩) hg _
  ·intro g' t' cs h1 h2 h3 h4;exact (HK3.out g' t' cs h1 h2 ((HK1.out g' t' cs h1 h2 h4).far h3 _)).far h3 _
 ·have HP:=hid (put_no (t:=t) (s:=s) (by omega));have d1:decide ((70:Int) < (t.2.length:Int)+(s.length:Int))=false:=decide_eq_false (by omega);have W2:=writeStringK_any B b (Lib.byteCells (t.1 ++ t.2)) ⟨s.toArray⟩ w hI (by rw[Lib.byteCells_length,hsz];omega) hBw;rw[sc_app] at W2;have HW2:=hid W2;clear W2 hI hu;go_enter Tryz.func74,Tryz.ntmps74;go_wp2_with fail;refine HW2.out.mono ?_;rintro e w2 ⟨rfl,hb3,hbe3,hk3⟩;have hu3:=hk3 g _ _ (by decide) hgb HU.out;have c3:=hu3.cell_ 0 (.int .i64 t.2.length) rfl;have f3:=hu3.frozen 0;have HB3:=hid hbe3;have HK3:=hid hk3;have HB:=hid hb3;have HU3:=hid hu3;clear hu3 hbe3 hk3 hb3 c0;go_wp2
  go_end0
  refine⟨rfl,?_⟩;rw[HP.out];refine⟨?_,?_,?_,?_⟩
  ·have:=builder_far (cs:=[.int .i64 t.2.length]) HB.out HU3.out hgb (by decide) 0 (.int .i64 ((t.2.length:Int)+s.length));simpa using this
  ·dsimp only;rw[List.length_append];simpa using HU3.out.set_ 0 (.int .i64 ((t.2.length:Int)+s.length))
  ·exact HB3.out.setCell (p:=⟨g,0,none⟩) hg _
  ·intro g' t' cs h1 h2 h3 h4;exact (HK3.out g' t' cs h1 h2 h4).far h3 _
end Go.Proofs.YtcfelnhmifkelaaGreatDoor
namespace Go.Proofs.YtcfelnhmifkelaaGreatDoor
set_option linter.unusedSimpArgs false
open Go.RowKit
set_option linter.unusedVariables false

theorem topC_ge:∀ (ps:List Cel)(m:Int),m≤ps.foldl (fun n c=>max n c.s) m∧∀ c ∈ ps,c.s≤ps.foldl (fun n c=>max n c.s) m
 | [],m=>⟨Int.le_refl _,fun c h=>by cases h⟩
 | a :: l,m=>by
  have h:=topC_ge l (max m a.s);rw[List.foldl_cons];refine⟨by omega,fun c hc=>?_⟩;rcases List.mem_cons.1 hc with rfl | hc
  ·omega
  ·exact h.2 c hc
def RunOk (top:Int)(k:Nat)(r:Int × Int):Prop:=-1≤r.2∧r.2≤top∧1≤r.1∧r.1≤2097153+k
theorem RunOk.more {top:Int}{k:Nat}{r:Int × Int}(h:RunOk top k r):RunOk top (k+1) r:=⟨h.1,h.2.1,h.2.2.1,by have:=h.2.2.2;omega⟩
theorem stepR_runs {bx top:Int}{t:RS}{k:Nat}{c:Cel}(ht:RSok t k)(h0:0≤top)(hs:c.s≤top)(hs1:1≤c.s)(hb:-1048576≤bx∧bx≤1048576)(hx:-1048576≤c.x∧c.x≤1048576)(hy:-1048576≤c.y∧c.y≤1048576)
  (h:∀ r ∈ t.out,RunOk top k r):∀ r ∈ (stepR bx t c).out,RunOk top (k+1) r:=by
 have h1:(∀ r ∈ (lineE bx t c).out,RunOk top k r)∧-1048576≤(lineE bx t c).x:=by
  unfold lineE
  split
  ·refine⟨fun r hr=>?_,hb.1⟩;simp only[List.mem_append,List.mem_singleton] at hr;rcases hr with hr | hr
   ·exact h r hr
   ·subst hr;have:=ht.y0;exact⟨by simp,by dsimp only;omega,by dsimp only;omega,by dsimp only;omega⟩
  ·exact⟨h,ht.x0⟩
 have h2:∀ r ∈ (gapE (lineE bx t c) c).out,RunOk top k r:=by
  unfold gapE
  split
  ·intro r hr;simp only[List.mem_append,List.mem_singleton] at hr;rcases hr with hr | hr
   ·exact h1.1 r hr
   ·subst hr;have:=h1.2;exact⟨by simp,h0,by dsimp only;omega,by dsimp only;omega⟩
  ·exact h1.1
 intro r hr;have key:r ∈ (if incs (gapE (lineE bx t c) c) (lineE bx t c).x c=true then bump (gapE (lineE bx t c) c).out else (gapE (lineE bx t c) c).out ++ [(1,c.s)])→RunOk top (k+1) r:=by
  intro hr
  split at hr
  ·unfold bump at hr
   split at hr
   ·exact (h2 r hr).more
   ·rename_i q hq;simp only[List.mem_append,List.mem_singleton] at hr;rcases hr with hr | hr
    ·exact (h2 r (List.dropLast_subset _ hr)).more
    ·subst hr;have:=h2 q (List.mem_of_getLast? hq);exact⟨this.1,this.2.1,by have:=this.2.2.1;dsimp only;omega,by have:=this.2.2.2;dsimp only;omega⟩
  ·simp only[List.mem_append,List.mem_singleton] at hr;rcases hr with hr | hr
   ·exact (h2 r hr).more
   ·subst hr;exact⟨by dsimp only;omega,hs,by dsimp only;omega,by dsimp only;omega⟩
 exact key hr
theorem runs_spec (ps:List Cel):(runsL ps).length≤3*ps.length∧(runsL ps).length≤15000∧∀ r ∈ runsL ps,RunOk (topC ps) 5000 r∧r.2≤7:=by
 unfold runsL
 split
 ·rename_i hb;have bd:=box_bd hb;have hp:=right_bd bd.1;have hl:ps.length≤5000:=by have h:=bd.1;unfold rightC at h;simp only[Bool.and_eq_true,decide_eq_true_eq] at h;exact h.1
  have hk:=runs_ok (ps:=ps) hp bd.2.2.1 bd.2.2.2;have ht:=topC_ge ps 0;have key:∀ k,k≤ps.length→∀ r ∈ (runsSt (boxC ps).1.x (boxC ps).1.y ps k).out,RunOk (topC ps) k r:=by
   intro k;induction k with
   | zero=>intro _ r hr;cases hr
   | succ k ih=>
    intro h;rw[runs_snoc _ _ (by omega)];have hc:=hp ps[k] (List.getElem_mem (by omega));exact stepR_runs (hk k (by omega)) ht.1 (ht.2 _ (List.getElem_mem (by omega))) hc.2.2.1 bd.2.2.1 hc.1 hc.2.1 (ih (by omega))
  have hn:=(hk ps.length (Nat.le_refl _)).n;refine⟨hn,by omega,fun r hr=>?_⟩;have h:=key ps.length (Nat.le_refl _) r hr;refine⟨⟨h.1,h.2.1,h.2.2.1,by have:=h.2.2.2;omega⟩,?_⟩;have h7:topC ps≤7:=by
   unfold topC;have:∀ (l:List Cel) (m:Int),m≤7→(∀ c ∈ l,c.s < 8)→l.foldl (fun n c=>max n c.s) m≤7:=by
    intro l;induction l with
    | nil=>intro m hm _;exact hm
    | cons a l ih=>
     intro m hm h;rw[List.foldl_cons];have:=h a List.mem_cons_self;exact ih _ (by omega) (fun c hc=>h c (List.mem_cons_of_mem _ hc))
   exact this ps 0 (by omega) (fun c hc=>(hp c hc).2.2.2)
  have:=h.2.1;omega
 ·exact⟨by simp,by simp,fun r hr=>by cases hr⟩
theorem letC_len (k:Int)(two:Bool):(letC k two).length=1:=by
 unfold letC
 split
 ·rfl
 ·split <;> rfl
theorem itoa_len (n:Int)(h0:0≤n)(h1:n < 10000000):(Lib.itoa n).length≤7:=by
 rw[show n=((n.toNat:Nat):Int) by omega,itoa_nat];exact dec_len1 (by omega) _ (by omega)
theorem item_len (two:Bool)(r:Int × Int)(h0:0≤r.1)(h1:r.1 < 10000000):(itemC two r).length≤8:=by
 unfold itemC;rw[List.length_append,letC_len]
 split
 ·have:=itoa_len r.1 h0 h1;omega
 ·simp
theorem wrap_len (h:List UInt8):∀ (l:List (List UInt8)),(∀ x ∈ l,x.length≤8)→(wrapL h l).1.length+(wrapL h l).2.length≤h.length+9*l.length:=by
 intro l;unfold wrapL;have key:∀ (l:List (List UInt8)) (t:List UInt8 × List UInt8),(∀ x ∈ l,x.length≤8)→(l.foldl putL t).1.length+(l.foldl putL t).2.length≤t.1.length+t.2.length+9*l.length:=by
  intro l;induction l with
  | nil=>intro t _;simp
  | cons a l ih=>
   intro t hl;rw[List.foldl_cons];have h1:=ih (putL t a) (fun x hx=>hl x (List.mem_cons_of_mem _ hx));have h2:=put_len t a;have h3:=hl a List.mem_cons_self
   simp
   omega
 intro hl;have:=key l (h,[]) hl;simpa using this
theorem wrap_snoc (h:List UInt8){l:List (List UInt8)} {k:Nat}(hk:k < l.length):wrapL h (l.take (k+1))=putL (wrapL h (l.take k)) l[k]:=by
 unfold wrapL;rw[List.take_succ_eq_append_getElem hk,List.foldl_append];rfl
end Go.Proofs.YtcfelnhmifkelaaGreatDoor
namespace Go.Proofs.YtcfelnhmifkelaaGreatDoor
open Lib(hid)
open Go.RowKit
set_option maxRecDepth 100000
set_option linter.unusedVariables false
set_option linter.unusedSimpArgs false

def Glob (w : World) : Prop := (∃ m, w.cell? ⟨0, 0, none⟩ = some (.int .i64 m)) ∧ Lib.TabIs Tryz.prog w "internal/strconv.uint64pow10" .u64 Lib.pow10Tab
theorem Glob.ext {w w':World}(h:Glob w)(hb:Below w.heap.size w w'):Glob w':=by
 obtain⟨⟨m,hm⟩,h2⟩:=h;refine⟨⟨m,?_⟩,?_⟩
 ·rw[hb.cell (World.block_lt_of_cell? _ _ hm)];exact hm
 ·exact Joins.var_stays (g:=3) (by kernel_rfl) h2 hb (Nat.le_refl _)
theorem below_grow (w:World)(k:Nat)(os:Array Obj):Below w.heap.size w (Sort.grow (w.drewN k) os):=
 ⟨rfl,rfl,rfl,by simp,fun i hi=>Sort.heap_grow_old _ _ hi⟩
theorem itoa_any (n:Int)(h0:-9223372036854775808≤n)(h1:n≤9223372036854775807)(w:World)(hg:Glob w):Calls Tryz.prog 35 #[.int .i64 n] w fun e w'=>e=.returned (.string ⟨(Lib.itoa n).toArray⟩)∧Below w.heap.size w w':=by
 refine (Tryz.strconv_Itoa n h0 h1 w hg.2).mono ?_;rintro e w' ⟨rfl,k,os,rfl⟩;exact⟨rfl,below_grow w k os⟩
theorem hdC_mem {ps:List Cel}(h:ps≠[]):hdC ps ∈ ps:=by
 cases ps with
 | nil=>exact absurd rfl h
 | cons a l=>exact List.mem_cons_self
theorem lstC_mem {ps:List Cel}(h:ps≠[]):lstC ps ∈ ps:=by
 unfold lstC;rw[List.getLastD_eq_getLast?,List.getLast?_eq_some_getLast h];exact List.getLast_mem h
theorem lo_le_hi (f:Cel→Int){ps:List Cel}(h:ps≠[]):lo f ps ps.length≤hi f ps ps.length:=by
 have key:∀ k,k≤ps.length→lo f ps k≤hi f ps k:=by
  intro k;induction k with
  | zero=>intro _;exact Int.le_refl _
  | succ k ih=>
   intro hk;rw[lo_snoc f (by omega),hi_snoc f (by omega)];have:=ih (by omega);omega
 exact key _ (Nat.le_refl _)
theorem box_size (ps:List Cel):0≤(boxC ps).1.w∧(boxC ps).1.w≤4194304∧0≤(boxC ps).1.h∧(boxC ps).1.h≤4194304:=by
 unfold boxC
 split
 ·rename_i h;have hb:=right_bd h.2;have h1:=lo_bd (·.x) h.1 (fun c hc=>(hb c hc).1) ps.length;have h2:=hi_bd (·.x) h.1 (fun c hc=>(hb c hc).1) ps.length;have h3:=lo_le_hi (·.x) h.1;have h4:=hb (hdC ps) (hdC_mem h.1);have h5:=hb (lstC ps) (lstC_mem h.1);have h6:(hdC ps).y≤(lstC ps).y:=by
   have:=h.2;unfold rightC at this;simp only[Bool.and_eq_true] at this;exact chain_last this.2 _ (hdC_mem h.1)
  dsimp only;omega
 ·dsimp only;omega
theorem own_kept {w w':World}{base b g:Nat}{v:Value}{l:List (Int × Int)} (h:OwnP 107 w base v l)(hb:b < base)(hg:g < base)
  (hk:∀ g' t' cs,5≠t'→g'≠b→g'≠g→Blk w g' t' cs→Blk w' g' t' cs):OwnP 107 w' base v l:=by
 obtain⟨h1,h2⟩:=h;refine⟨h1,?_⟩;rcases h2 with h2 | ⟨g',cap,cur,h3,h4,h5,h6⟩
 ·exact .inl h2
 ·exact .inr ⟨g',cap,cur,h3,h4,hk g' _ _ (by decide) (by omega) (by omega) h5,h6⟩
theorem meas_up {n k:Nat}(h:k < n):n - (intOf (.int .i64 ((k:Int)+1))).toNat < n - (intOf (.int .i64 (k:Int))).toNat:=by
 simp[intOf];omega
theorem isBuilder_ext {T e:TypeId}{B b:Nat}{bs:List Value}{w w':World}(h:Lib.IsBuilder T e B b bs w)(hb:Below w.heap.size w w'):Lib.IsBuilder T e B b bs w':=by
 rcases h with h | h
 ·exact .inl (builder_ext h hb)
 ·exact .inr (builder_ext h hb)
structure TxJ (w0:World)(P:Nat)(bw:Int)(bh:Int)(sw:List UInt8)(sh:List UInt8)(rule:List UInt8)(L3:List UInt8)(L4:List UInt8)(L8:List UInt8)(L9:List UInt8)(L11:List UInt8)(L12:List UInt8)(b0 b1 b2 b3 b4 b5 b6 b7 b8 b9 b10 b11 b12 b13:Bool)(v34 v35 v36 v37 v38 v39 v40 v41 v42 v43 v44 v45 v46 v47:Value)(w:World):Prop where
 below:Below w0.heap.size w0 w
 bld:b13=false→Lib.IsBuilder 97 5 w0.heap.size w0.heap.size [] w
 h0:b0=true→v34=.pointer (some ⟨P,2,none⟩)
 h1:b1=true→v35=.int .i64 bw
 h2:b2=true→v36=.string ⟨sw.toArray⟩
 h3:b3=true→v37=.string ⟨L3.toArray⟩
 h4:b4=true→v38=.string ⟨L4.toArray⟩
 h5:b5=true→v39=.pointer (some ⟨P,3,none⟩)
 h6:b6=true→v40=.int .i64 bh
 h7:b7=true→v41=.string ⟨sh.toArray⟩
 h8:b8=true→v42=.string ⟨L8.toArray⟩
 h9:b9=true→v43=.string ⟨L9.toArray⟩
 h10:b10=true→v44=.string ⟨rule.toArray⟩
 h11:b11=true→v45=.string ⟨L11.toArray⟩
 h12:b12=true→v46=.string ⟨L12.toArray⟩
 h13:b13=true→Lib.BuilderAt 97 5 w0.heap.size w0.heap.size (.pointer (some ⟨w0.heap.size,0,none⟩)) (Lib.byteCells L12) w
section
variable {w0 : World} {P : Nat} {bw : Int} {bh : Int} {sw : List UInt8} {sh : List UInt8} {rule : List UInt8} {L3 : List UInt8} {L4 : List UInt8} {L8 : List UInt8} {L9 : List UInt8} {L11 : List UInt8} {L12 : List UInt8} {b0 b1 b2 b3 b4 b5 b6 b7 b8 b9 b10 b11 b12 b13 : Bool} {v34 v35 v36 v37 v38 v39 v40 v41 v42 v43 v44 v45 v46 v47 : Value} {w w' : World}
theorem TxJ.world (H:TxJ w0 P bw bh sw sh rule L3 L4 L8 L9 L11 L12 b0 b1 b2 b3 b4 b5 b6 b7 b8 b9 b10 b11 b12 b13 v34 v35 v36 v37 v38 v39 v40 v41 v42 v43 v44 v45 v46 v47 w)(hb:Below w.heap.size w w'):TxJ w0 P bw bh sw sh rule L3 L4 L8 L9 L11 L12 b0 b1 b2 b3 b4 b5 b6 b7 b8 b9 b10 b11 b12 b13 v34 v35 v36 v37 v38 v39 v40 v41 v42 v43 v44 v45 v46 v47 w':=
 {H with below:=H.below.trans (hb.mono H.below.size),bld:=fun h=>isBuilder_ext (H.bld h) hb,h13:=fun h=>builder_ext (H.h13 h) hb }
end
set_option maxHeartbeats 16000000 in
theorem text_any (A:Option Addr)(c:Nat)(ps:List Cel)(rule:List UInt8)(w:World)(hg:Glob w)(ha:Cls w A ps)(hs:rule.length≤1000000) :
  Calls Tryz.prog 32 #[.slice A ps.length c,.string ⟨rule.toArray⟩] w fun e w'=>e=.returned (.tuple #[.string ⟨(textL ps rule).1.toArray⟩,.int .i64 (textL ps rule).2])∧Below w.heap.size w w':=by
 have hn:=ha.le;have HR:=hid (right_any A c ps w ha);have HNM:=hid (fun w=>ruleName_any ⟨rule.toArray⟩ w (by show rule.toArray.size≤_;simp;omega));cases hr:rightC ps
 ·have HT:Hid (textL ps rule=([],2)):=hid (by unfold textL;rw[if_pos hr]);rw[hr] at HR;clear hr;go_enter Tryz.func32,Tryz.ntmps32;go_wp2_with fail;refine HR.out.mono ?_;rintro e w1 ⟨rfl,hb1⟩;have HB:=hid hb1;clear hb1;go_wp2;go_ret2;rw[HT.out];exact⟨rfl,HB.out⟩
 rw[hr] at HR;have HRT:=hid hr;clear hr;cases hm:nameB rule
 ·have HT:Hid (textL ps rule=([],7)):=hid (by unfold textL;rw[if_neg (by rw[HRT.out];simp),if_pos hm]);rw[hm] at HNM;clear hm;go_enter Tryz.func32,Tryz.ntmps32;go_wp2_with fail;refine HR.out.mono ?_;rintro e w1 ⟨rfl,hb1⟩;have HB:=hid hb1;clear hb1;go_wp2_with fail;refine (HNM.out _).mono ?_;rintro e w2 ⟨rfl,hw2⟩;subst hw2;go_wp2;go_ret2;rw[HT.out];exact⟨rfl,HB.out⟩
 have HNT:=hid hm;rw[hm] at HNM;clear hm;have HBX:=hid (fun w' hb=>box_any A c ps w' (ha.ext hb));have HBP:Hid ((boxC ps).2=true→rightC ps=true∧ps≠[]):=hid (fun h=>⟨(box_bd h).1,(box_bd h).2.1⟩);have HBD:=hid (box_size ps);have HTD:Hid (textL ps rule=if 1048577 < (boxC ps).1.w∨1048577 < (boxC ps).1.h then ([],5) else if 65536 < (fullT ps rule).length then ([],6) else (fullT ps rule,0)):=hid (by unfold textL;rw[if_neg (by rw[HRT.out];simp),if_neg (by rw[HNT.out];simp)]);have HFT:Hid (fullT ps rule=endL (wrapL (headL (boxC ps).1 rule) (itemsL ps))):=hid rfl;obtain⟨q,hq⟩:∃ q,q=boxC ps:=⟨_,rfl⟩
 rw[← hq] at HBX HBP HBD HTD HFT;clear hq;obtain⟨bb,ok⟩:=q;obtain⟨bx,y0,bw,bh⟩:=bb;unfold bxV headL at *;dsimp only at HBX HBP HBD HTD HFT;by_cases hw:1048577 < bw
 ·have HT:Hid (textL ps rule=([],5)):=hid (by rw[HTD.out,if_pos (.inl hw)]);have d1:decide (1048577 < bw)=true:=decide_eq_true hw;clear HTD HFT;go_enter Tryz.func32,Tryz.ntmps32;go_wp2_with fail;refine HR.out.mono ?_;rintro e w1 ⟨rfl,hb1⟩;have HB1:=hid hb1;clear hb1;have HBX1:=hid (HBX.out w1 HB1.out);go_wp2_with fail;refine (HNM.out _).mono ?_;rintro e w2 ⟨rfl,hw2⟩;subst hw2;go_wp2_with fail;refine HBX1.out.mono ?_;rintro e w3 ⟨rfl,hb3⟩;have br0:=Blk.new w3 73 #[.int .i64 bx,.int .i64 y0,.int .i64 bw,.int .i64 bh];have hb4:=(HB1.out.trans (hb3.mono HB1.out.size)).alloc (Nat.le_trans HB1.out.size hb3.size) (.cells #[.int .i64 bx,.int .i64 y0,.int .i64 bw,.int .i64 bh] 73);obtain⟨w4,hw4⟩:∃ w4,w4=w3.alloc (.cells #[.int .i64 bx,.int .i64 y0,.int .i64 bw,.int .i64 bh] 73):=⟨_,rfl⟩
  rw[← hw4] at br0 hb4;have HB:=hid hb4;have HBR:=hid br0;have HW4:=hid hw4;clear hb3 hb4 hw4;have q2:=br0.cell_ 2 (.int .i64 bw) rfl;have q3:=br0.cell_ 3 (.int .i64 bh) rfl;clear br0;go_upto_region 6 with fail
  rw[← HW4.out];go_wp2;go_ret2;rw[HT.out];exact⟨rfl,HB.out⟩
 have d1:decide (1048577 < bw)=false:=decide_eq_false hw;by_cases hh:1048577 < bh
 ·have HT:Hid (textL ps rule=([],5)):=hid (by rw[HTD.out,if_pos (.inr hh)]);have d2:decide (1048577 < bh)=true:=decide_eq_true hh;clear HTD HFT;go_enter Tryz.func32,Tryz.ntmps32;go_wp2_with fail;refine HR.out.mono ?_;rintro e w1 ⟨rfl,hb1⟩;have HB1:=hid hb1;clear hb1;have HBX1:=hid (HBX.out w1 HB1.out);go_wp2_with fail;refine (HNM.out _).mono ?_;rintro e w2 ⟨rfl,hw2⟩;subst hw2;go_wp2_with fail;refine HBX1.out.mono ?_;rintro e w3 ⟨rfl,hb3⟩;have br0:=Blk.new w3 73 #[.int .i64 bx,.int .i64 y0,.int .i64 bw,.int .i64 bh];have hb4:=(HB1.out.trans (hb3.mono HB1.out.size)).alloc (Nat.le_trans HB1.out.size hb3.size) (.cells #[.int .i64 bx,.int .i64 y0,.int .i64 bw,.int .i64 bh] 73);obtain⟨w4,hw4⟩:∃ w4,w4=w3.alloc (.cells #[.int .i64 bx,.int .i64 y0,.int .i64 bw,.int .i64 bh] 73):=⟨_,rfl⟩
  rw[← hw4] at br0 hb4;have HB:=hid hb4;have HBR:=hid br0;have HW4:=hid hw4;clear hb3 hb4 hw4;have q2:=br0.cell_ 2 (.int .i64 bw) rfl;have q3:=br0.cell_ 3 (.int .i64 bh) rfl;clear br0;go_upto_region 6 with fail
  rw[← HW4.out];go_wp2;go_ret2;rw[HT.out];exact⟨rfl,HB.out⟩
 have d2:decide (1048577 < bh)=false:=decide_eq_false hh;have HT:Hid (textL ps rule=if 65536 < (fullT ps rule).length then ([],6) else (fullT ps rule,0)):=hid (by rw[HTD.out,if_neg (by omega)]);go_enter Tryz.func32,Tryz.ntmps32;go_wp2_with fail;refine HR.out.mono ?_;rintro e w1 ⟨rfl,hb1⟩;have HB1:=hid hb1;clear hb1;have HBX1:=hid (HBX.out w1 HB1.out);go_wp2_with fail;refine (HNM.out _).mono ?_;rintro e w2 ⟨rfl,hw2⟩;subst hw2;go_wp2_with fail;refine HBX1.out.mono ?_;rintro e w3 ⟨rfl,hb3⟩;have br0:=Blk.new w3 73 #[.int .i64 bx,.int .i64 y0,.int .i64 bw,.int .i64 bh];have hb4:=(HB1.out.trans (hb3.mono HB1.out.size)).alloc (Nat.le_trans HB1.out.size hb3.size) (.cells #[.int .i64 bx,.int .i64 y0,.int .i64 bw,.int .i64 bh] 73);obtain⟨w4,hw4⟩:∃ w4,w4=w3.alloc (.cells #[.int .i64 bx,.int .i64 y0,.int .i64 bw,.int .i64 bh] 73):=⟨_,rfl⟩
 rw[← hw4] at br0 hb4;have HB:=hid hb4;have HBR:=hid br0;have HW4:=hid hw4;clear hb3 hb4 hw4;have q2:=br0.cell_ 2 (.int .i64 bw) rfl;have q3:=br0.cell_ 3 (.int .i64 bh) rfl;clear br0;go_upto_region 6 with fail
 rw[← HW4.out];go_upto_region 9 with fail
 have HPL:Hid (w3.heap.size < w4.heap.size):=hid HBR.out.lt;have Q2:=hid q2;have Q3:=hid q3;have HG4:=hid (hg.ext HB.out);have HIF:=hid (Lib.fresh_isBuilder 97 5 w4);have HBF:=hid (below_new w4 (.cells #[.pointer none,.slice none 0 0] 97));obtain⟨sw,hsw⟩:∃ l,l=Lib.itoa bw:=⟨_,rfl⟩
 obtain⟨sh,hsh⟩:∃ l,l=Lib.itoa bh:=⟨_,rfl⟩
 have Hbw:Hid (Lib.itoa bw=sw):=hid hsw.symm;have Hbh:Hid (Lib.itoa bh=sh):=hid hsh.symm;have hl1:sw.length≤7:=by rw[hsw];exact itoa_len _ HBD.out.1 (by have:=HBD.out;omega)
 have hl2:sh.length≤7:=by rw[hsh];exact itoa_len _ HBD.out.2.2.1 (by have:=HBD.out;omega)
 have hl3:rule.length≤100:=by have h:=HNT.out;unfold nameB at h;simp only[Bool.and_eq_true,decide_eq_true_eq] at h;omega
 obtain⟨L3,e3⟩:∃ l,l=[120,32,61,32] ++ sw:=⟨_,rfl⟩
 obtain⟨L4,e4⟩:∃ l,l=L3 ++ [44,32,121,32,61,32]:=⟨_,rfl⟩
 obtain⟨L8,e8⟩:∃ l,l=L4 ++ sh:=⟨_,rfl⟩
 obtain⟨L9,e9⟩:∃ l,l=L8 ++ [44,32,114,117,108,101,32,61,32]:=⟨_,rfl⟩
 obtain⟨L11,e11⟩:∃ l,l=L9 ++ rule:=⟨_,rfl⟩
 obtain⟨L12,e12⟩:∃ l,l=L11 ++ [10]:=⟨_,rfl⟩
 have HLN:Hid (sw.length≤7∧sh.length≤7∧rule.length≤100∧L3.length≤11∧L4.length≤17∧L8.length≤24∧L9.length≤33∧L11.length≤133∧L12.length≤134):=hid (by
  have k3:L3.length=4+sw.length:=by rw[e3];simp;omega
  have k4:L4.length=L3.length+6:=by rw[e4];simp
  have k8:L8.length=L4.length+sh.length:=by rw[e8];simp
  have k9:L9.length=L8.length+9:=by rw[e9];simp
  have k11:L11.length=L9.length+rule.length:=by rw[e11];simp
  have k12:L12.length=L11.length+1:=by rw[e12];simp
  omega)
 have HF2:Hid (fullT ps rule=endL (wrapL L12 (itemsL ps))):=hid (by rw[HFT.out,e12,e11,e9,e8,e4,e3,hsw,hsh]);have E3:=hid e3;have E4:=hid e4;have E8:=hid e8;have E9:=hid e9;have E11:=hid e11;have E12:=hid e12;clear hsw hsh e3 e4 e8 e9 e11 e12 q2 q3 hl1 hl2 hl3 HTD HFT hw hh d1 d2;refine wp_region_J (by kernel_rfl) (fun listed act w'=>∃ b0 b1 b2 b3 b4 b5 b6 b7 b8 b9 b10 b11 b12 b13 v34 v35 v36 v37 v38 v39 v40 v41 v42 v43 v44 v45 v46 v47,listed=#[b0,b1,b2,b3,b4,b5,b6,b7,b8,b9,b10,b11,b12,b13]∧act=Act.mk #[.slice A ps.length c,.string ⟨rule.toArray⟩,undef,undef,.string ⟨#[]⟩,.int .i64 0,.pointer (some ⟨w3.heap.size,0,none⟩),.bool ok,.pointer (some ⟨w4.heap.size,0,none⟩),undef,undef,undef,undef,undef,undef,.slice A ps.length c,.bool true,.bool false,.string ⟨rule.toArray⟩,.bool true,.bool false,.tuple #[.agg #[.int .i64 bx,.int .i64 y0,.int .i64 bw,.int .i64 bh],.bool ok],.slice A ps.length c,.tuple #[.agg #[.int .i64 bx,.int .i64 y0,.int .i64 bw,.int .i64 bh],.bool ok],.agg #[.int .i64 bx,.int .i64 y0,.int .i64 bw,.int .i64 bh],.bool ok,.pointer (some ⟨w3.heap.size,2,none⟩),.int .i64 bw,.bool false,.bool false,.pointer (some ⟨w3.heap.size,3,none⟩),.int .i64 bh,.bool false,.bool false,v34,v35,v36,v37,v38,v39,v40,v41,v42,v43,v44,v45,v46,v47,undef,undef,undef,undef,undef,undef,undef,undef,undef,undef,undef,undef,undef,undef,undef,undef,undef,undef,undef,undef,undef,undef,undef,undef,undef,undef,undef,undef,undef,undef,undef,undef,undef] []∧TxJ w4 w3.heap.size bw bh sw sh rule L3 L4 L8 L9 L11 L12 b0 b1 b2 b3 b4 b5 b6 b7 b8 b9 b10 b11 b12 b13 v34 v35 v36 v37 v38 v39 v40 v41 v42 v43 v44 v45 v46 v47 w') ?_ ?_ ?_
 ·exact (e_8 (e_8 (e_8 (e_4 ⟨rfl,rfl,(by constructor;(case below=>exact HBF.out.drew);(case bld=>exact (fun _=>isBuilder_ext HIF.out (Below.refl _ _).drew));all_goals simp)⟩))))
 ·rintro i listed act w' hi ⟨b0,b1,b2,b3,b4,b5,b6,b7,b8,b9,b10,b11,b12,b13,v34,v35,v36,v37,v38,v39,v40,v41,v42,v43,v44,v45,v46,v47,rfl,rfl,H⟩;have hi16:i < 14:=by
   obtain⟨-,o,ho,-⟩:=mem_ready.1 hi;exact (Array.getElem?_eq_some_iff.1 ho).1
  obtain rfl | rfl | rfl | rfl | rfl | rfl | rfl | rfl | rfl | rfl | rfl | rfl | rfl | rfl:i=0∨i=1∨i=2∨i=3∨i=4∨i=5∨i=6∨i=7∨i=8∨i=9∨i=10∨i=11∨i=12∨i=13:=by omega
  all_goals simp[mem_ready,Region.binds] at hi
  ·refine wpOp_hidden rfl fun K hK=>?_;go_wp2;refine OnlyN.mk (hK.out _ _ (e_8 (e_8 (e_8 (e_4 ⟨rfl,rfl,{ H with h0:=fun _=>rfl }⟩)))))
  ·obtain rfl:=H.h0 (by simp[hi]);have cc:=(H.below.cell (p:=⟨w3.heap.size,2,none⟩) HPL.out).trans Q2.out;refine wpOp_hidden rfl fun K hK=>?_;go_wp2;refine OnlyN.mk (hK.out _ _ (e_8 (e_8 (e_8 (e_4 ⟨rfl,rfl,{ H with h1:=fun _=>rfl }⟩)))))
  ·obtain rfl:=H.h1 (by simp[hi]);have hgw:=HG4.out.ext H.below;have HI:=hid (itoa_any bw (by have:=HBD.out;omega) (by have:=HBD.out;omega) w' hgw);rw[Hbw.out] at HI;clear hgw;refine wpOp_hidden rfl fun K hK=>?_;go_wp2_with fail;refine HI.out.mono ?_;rintro e w9 ⟨rfl,hb9⟩;have HA:=hid (H.world hb9);clear H hb9;go_wp2;refine OnlyN.mk (hK.out _ _ (e_8 (e_8 (e_8 (e_4 ⟨rfl,rfl,⟨HA.out.below,HA.out.bld,HA.out.h0,HA.out.h1,fun _=>rfl,HA.out.h3,HA.out.h4,HA.out.h5,HA.out.h6,HA.out.h7,HA.out.h8,HA.out.h9,HA.out.h10,HA.out.h11,HA.out.h12,HA.out.h13⟩⟩)))))
  ·obtain rfl:=H.h2 (by simp[hi]);have hle:¬ 9223372036854775807 < 4+sw.length:=by have:=HLN.out;omega
   refine wpOp_hidden rfl fun K hK=>?_;go_wp2;refine OnlyN.mk (hK.out _ _ (e_8 (e_8 (e_8 (e_4 ⟨rfl,rfl,{ H with h3:=fun _=>by rw[E3.out,← bytes_app] }⟩)))))
  ·obtain rfl:=H.h3 (by simp[hi]);have hle:¬ 9223372036854775807 < L3.length+6:=by have:=HLN.out;omega
   refine wpOp_hidden rfl fun K hK=>?_;go_wp2;refine OnlyN.mk (hK.out _ _ (e_8 (e_8 (e_8 (e_4 ⟨rfl,rfl,{ H with h4:=fun _=>by rw[E4.out,← bytes_app] }⟩)))))
  ·refine wpOp_hidden rfl fun K hK=>?_;go_wp2;refine OnlyN.mk (hK.out _ _ (e_8 (e_8 (e_8 (e_4 ⟨rfl,rfl,{ H with h5:=fun _=>rfl }⟩)))))
  ·obtain rfl:=H.h5 (by simp[hi]);have cc:=(H.below.cell (p:=⟨w3.heap.size,3,none⟩) HPL.out).trans Q3.out;refine wpOp_hidden rfl fun K hK=>?_;go_wp2;refine OnlyN.mk (hK.out _ _ (e_8 (e_8 (e_8 (e_4 ⟨rfl,rfl,{ H with h6:=fun _=>rfl }⟩)))))
  ·obtain rfl:=H.h6 (by simp[hi]);have hgw:=HG4.out.ext H.below;have HI:=hid (itoa_any bh (by have:=HBD.out;omega) (by have:=HBD.out;omega) w' hgw);rw[Hbh.out] at HI;clear hgw;refine wpOp_hidden rfl fun K hK=>?_;go_wp2_with fail;refine HI.out.mono ?_;rintro e w9 ⟨rfl,hb9⟩;have HA:=hid (H.world hb9);clear H hb9;go_wp2;refine OnlyN.mk (hK.out _ _ (e_8 (e_8 (e_8 (e_4 ⟨rfl,rfl,⟨HA.out.below,HA.out.bld,HA.out.h0,HA.out.h1,HA.out.h2,HA.out.h3,HA.out.h4,HA.out.h5,HA.out.h6,fun _=>rfl,HA.out.h8,HA.out.h9,HA.out.h10,HA.out.h11,HA.out.h12,HA.out.h13⟩⟩)))))
  ·obtain rfl:=H.h4 (by simp[hi]);obtain rfl:=H.h7 (by simp[hi]);have hle:¬ 9223372036854775807 < L4.length+sh.length:=by have:=HLN.out;omega
   refine wpOp_hidden rfl fun K hK=>?_;go_wp2;refine OnlyN.mk (hK.out _ _ (e_8 (e_8 (e_8 (e_4 ⟨rfl,rfl,{ H with h8:=fun _=>by rw[E8.out,← bytes_app] }⟩)))))
  ·obtain rfl:=H.h8 (by simp[hi]);have hle:¬ 9223372036854775807 < L8.length+9:=by have:=HLN.out;omega
   refine wpOp_hidden rfl fun K hK=>?_;go_wp2;refine OnlyN.mk (hK.out _ _ (e_8 (e_8 (e_8 (e_4 ⟨rfl,rfl,{ H with h9:=fun _=>by rw[E9.out,← bytes_app] }⟩)))))
  ·refine wpOp_hidden rfl fun K hK=>?_;go_wp2;refine OnlyN.mk (hK.out _ _ (e_8 (e_8 (e_8 (e_4 ⟨rfl,rfl,{ H with h10:=fun _=>rfl }⟩)))))
  ·obtain rfl:=H.h9 (by simp[hi]);obtain rfl:=H.h10 (by simp[hi]);have hle:¬ 9223372036854775807 < L9.length+rule.length:=by have:=HLN.out;omega
   refine wpOp_hidden rfl fun K hK=>?_;go_wp2;refine OnlyN.mk (hK.out _ _ (e_8 (e_8 (e_8 (e_4 ⟨rfl,rfl,{ H with h11:=fun _=>by rw[E11.out,← bytes_app] }⟩)))))
  ·obtain rfl:=H.h11 (by simp[hi]);have hle:¬ 9223372036854775807 < L11.length+1:=by have:=HLN.out;omega
   refine wpOp_hidden rfl fun K hK=>?_;go_wp2;refine OnlyN.mk (hK.out _ _ (e_8 (e_8 (e_8 (e_4 ⟨rfl,rfl,{ H with h12:=fun _=>by rw[E12.out,← bytes_app] }⟩)))))
  ·obtain rfl:=H.h12 (by simp[hi]);have W1:=writeString_any w4.heap.size w4.heap.size [] ⟨L12.toArray⟩ w' (H.bld (by simp[hi])) (by have:=HLN.out;simp[ByteArray.size];omega) H.below.size;rw[show ([]:List Value) ++ Lib.strCells ⟨L12.toArray⟩=Lib.byteCells L12 by simp[Lib.byteCells,Lib.strCells]] at W1;have HW1:=hid W1;have HH:=hid H;clear W1 H;refine wpOp_hidden rfl fun K hK=>?_;go_wp2_with fail;refine HW1.out.mono ?_;rintro e w9 ⟨rfl,hb9,hbe9⟩;have HBE:=hid (HH.out.below.trans hbe9);have HB9:=hid hb9;clear hb9 hbe9;go_wp2;refine OnlyN.mk (hK.out _ _ (e_8 (e_8 (e_8 (e_4 ⟨rfl,rfl,⟨HBE.out,(fun h=>by cases h),HH.out.h0,HH.out.h1,HH.out.h2,HH.out.h3,HH.out.h4,HH.out.h5,HH.out.h6,HH.out.h7,HH.out.h8,HH.out.h9,HH.out.h10,HH.out.h11,HH.out.h12,fun _=>HB9.out⟩⟩)))))
 ·rintro listed act w' hr ⟨b0,b1,b2,b3,b4,b5,b6,b7,b8,b9,b10,b11,b12,b13,v34,v35,v36,v37,v38,v39,v40,v41,v42,v43,v44,v45,v46,v47,rfl,rfl,H⟩;have hn:=List.eq_nil_iff_forall_not_mem.1 hr;have r0:=hn 0;simp[mem_ready,Region.binds] at r0;subst r0;have r1:=hn 1;simp[mem_ready,Region.binds] at r1;subst r1;have r2:=hn 2;simp[mem_ready,Region.binds] at r2;subst r2;have r3:=hn 3;simp[mem_ready,Region.binds] at r3;subst r3;have r4:=hn 4;simp[mem_ready,Region.binds] at r4;subst r4;have r5:=hn 5;simp[mem_ready,Region.binds] at r5;subst r5;have r6:=hn 6;simp[mem_ready,Region.binds] at r6;subst r6;have r7:=hn 7;simp[mem_ready,Region.binds] at r7;subst r7;have r8:=hn 8;simp[mem_ready,Region.binds] at r8;subst r8;have r9:=hn 9;simp[mem_ready,Region.binds] at r9;subst r9;have r10:=hn 10;simp[mem_ready,Region.binds] at r10;subst r10;have r11:=hn 11;simp[mem_ready,Region.binds] at r11;subst r11;have r12:=hn 12;simp[mem_ready,Region.binds] at r12;subst r12;have r13:=hn 13;simp[mem_ready,Region.binds] at r13;subst r13;dsimp only;have hB5:=H.h13 rfl;have HBB:=HB;have hbe5:=H.below;clear H hr hn;generalize w'=w5 at *;have HIS:Hid (∀ k r,(runsL ps)[k]?=some r→(itemsL ps)[k]?=some (itemC (decide (topC ps≤1)) r)):=hid (by intro k r h;unfold itemsL;rw[List.getElem?_map,h];rfl);have HIL:Hid ((itemsL ps).length=(runsL ps).length):=hid (by unfold itemsL;simp);have HSP:=hid (runs_spec ps);have HI8:Hid (∀ x ∈ itemsL ps,x.length≤8):=hid (by
   intro x hx;unfold itemsL at hx;rw[List.mem_map] at hx;obtain⟨r,hr,rfl⟩:=hx;have h:=(HSP.out.2.2 r hr).1;exact item_len _ r (by have:=h.2.2.1;omega) (by have:=h.2.2.2;omega))
  have HWL:Hid (∀ k,(wrapL L12 ((itemsL ps).take k)).1.length+(wrapL L12 ((itemsL ps).take k)).2.length≤140000):=hid (by
   intro k;have h1:=wrap_len L12 ((itemsL ps).take k) (fun x hx=>HI8.out x (List.mem_of_mem_take hx));have h2:=HLN.out;have h3:((itemsL ps).take k).length≤15000:=by rw[List.length_take,HIL.out];have:=HSP.out.2.1;omega
   omega)
  have hW5:Below w5.heap.size w5 (w5.alloc (.cells #[.int .i64 0] 3)):=below_new _ _;have hu6:=Blk.new w5 3 #[.int .i64 0];obtain⟨w6,hw6⟩:∃ w6,w6=w5.alloc (.cells #[.int .i64 0] 3):=⟨_,rfl⟩
  rw[← hw6] at hW5 hu6;have hlt45:w4.heap.size < w5.heap.size:=hB5.lt;have HB6:=hid (builder_ext hB5 hW5);have HU6:=hid hu6;have HE6:=hid (hbe5.trans (hW5.mono hbe5.size));have HW6:=hid hw6;have HS6:Hid (w5.heap.size < w6.heap.size):=hid hu6.lt;have HTP:=hid (top_any A c ps w6 (ha.ext (HB.out.trans (HE6.out.mono HB.out.size))));have HRU:=hid (runs_own A c ps w6 (ha.ext (HB.out.trans (HE6.out.mono HB.out.size))));have HB5s:=hid hbe5.size;clear hB5 hbe5 hW5 hu6 hw6;obtain⟨top,htop⟩:∃ t,t=topC ps:=⟨_,rfl⟩
  obtain⟨l,hl⟩:∃ l,l=runsL ps:=⟨_,rfl⟩
  obtain⟨its,hits⟩:∃ l,l=itemsL ps:=⟨_,rfl⟩
  rw[← htop] at HTP HIS HSP;rw[← hl] at HRU HIS HSP HIL;rw[← hits] at HIS HIL HI8 HWL HF2;clear htop hl hits;go_upto_region 12 with fail
  rw[← HW6.out];go_wp2_with fail;refine HTP.out.mono ?_;rintro e w7 ⟨rfl,hw7⟩;subst hw7;go_wp2_with fail;refine HRU.out.mono ?_;rintro e w8 ⟨v,base,rfl,hbase,ho,hb8⟩;obtain⟨A2,a2,rfl,-,-⟩:=ho.pts;have HB8:=hid (builder_ext HB6.out hb8);have HU8:=hid (HU6.out.below hb8 HS6.out);have HE8:=hid (HE6.out.trans (hb8.mono HE6.out.size));have HO8:=hid ho;have HBS:=hid hbase;clear ho hb8 hbase;go_wp2;go_loopw [55] (fun i wr=>∃ k:Nat,k≤l.length∧i=.int .i64 k∧Hid (Lib.BuilderAt 97 5 w4.heap.size w4.heap.size (.pointer (some ⟨w4.heap.size,0,none⟩)) (Lib.byteCells ((wrapL L12 (its.take k)).1 ++ (wrapL L12 (its.take k)).2)) wr)∧Hid (Blk wr w5.heap.size 3 #[.int .i64 (wrapL L12 (its.take k)).2.length])∧Hid (OwnP 107 wr base (.slice A2 l.length a2) l)∧Hid (Below w4.heap.size w4 wr)) (fun i _=>l.length - (intOf i).toNat)
  case atStart=>
   refine⟨0,Nat.zero_le _,rfl,?_,HU8,HO8,HE8⟩;have h:=HB8.out;exact hid (by rw[show (wrapL L12 (its.take 0)).1 ++ (wrapL L12 (its.take 0)).2=L12 by simp[wrapL]];exact h)
  case round=>
   clear HB8 HU8 HO8 HE8;obtain⟨k,hk,rfl,HB,HU,HO,HE⟩:=hrel;by_cases hlt:k < l.length
   ·obtain⟨A3,a3,e3,hpt,-⟩:=HO.out.pts;injection e3 with e4 e5 e6
    subst e4 e6;obtain⟨b1,o1,e1,-,hr1,hr2⟩:=hpt.at_ hlt;have HIX:its[k]?=some (itemC (decide (top≤1)) l[k]):=HIS.out k l[k] (List.getElem?_eq_getElem hlt);have hkl:k < its.length:=by rw[HIL.out];exact hlt
    have hrk:=HSP.out.2.2 l[k] (List.getElem_mem hlt);obtain⟨r,hr⟩:∃ r,r=l[k]:=⟨_,rfl⟩
    rw[← hr] at hr1 hr2 HIX hrk;have HTK:Hid (wrapL L12 (its.take (k+1))=putL (wrapL L12 (its.take k)) (itemC (decide (top≤1)) r)):=hid (by
     rw[wrap_snoc L12 hkl]
     congr 1
     rw[List.getElem?_eq_getElem hkl] at HIX;exact Option.some.inj HIX)
    clear HIX hr hpt;obtain⟨a,q⟩:=r;dsimp only at hr1 hr2 hrk;have HRK:=hid hrk;have hwl:=HWL.out k;obtain⟨t,ht⟩:∃ t,t=wrapL L12 (its.take k):=⟨_,rfl⟩
    rw[← ht] at HB HU HTK hwl;clear ht;have hnb:=below_new wr (.cells #[.int .i64 a,.int .i64 q] 107);have p0:=Blk.new wr 107 #[.int .i64 a,.int .i64 q];obtain⟨wb,hwb⟩:∃ wb,wb=wr.alloc (.cells #[.int .i64 a,.int .i64 q] 107):=⟨_,rfl⟩
    rw[← hwb] at hnb p0;have HB1:=hid (builder_ext HB.out hnb);have HU1:=hid (HU.out.below hnb HU.out.lt);have HO1:=hid (HO.out.ext hnb);have HE1:=hid (HE.out.trans (hnb.mono HE.out.size));have HP:=hid p0;have HW:=hid hwb;have HLW:=hid hwl;clear HB HU HO HE hnb p0 hwb hwl hrk;have P0:=HP.out.cell_ 0 (.int .i64 a) rfl;have P1:=HP.out.cell_ 1 (.int .i64 q) rfl;have hq1:decide (top≤1)=true→q≤1:=by
     intro h;have h1:=HRK.out.1.2.1;have h2:top≤1:=by simpa using h
     exact Int.le_trans h1 h2
    have hwk:wrap64 ((k:Int)+1)=(k:Int)+1:=by have:=HSP.out.2.1;unfold wrap64;omega
    have HLC:=hid (letter_any q (decide (top≤1)) wb HRK.out.2 hq1);clear hq1;have HL1:=hid (letC_len q (decide (top≤1)));have HIC:Hid (itemC (decide (top≤1)) (a,q)=(if 1 < a then Lib.itoa a else []) ++ letC q (decide (top≤1))):=hid rfl;obtain⟨lc,hlc⟩:∃ x,x=letC q (decide (top≤1)):=⟨_,rfl⟩
    rw[← hlc] at HLC HL1 HIC;clear hlc;subst e1;go_upto_region 16 with fail
    rw[← HW.out];go_wp2_with fail;refine HLC.out.mono ?_;rintro e w9 ⟨rfl,hw9⟩;have hw8:=hw9.symm;clear hw9;subst hw8;by_cases h1:1 < a
    ·have d1:decide (1 < a)=true:=decide_eq_true h1;have HS:Hid (itemC (decide (top≤1)) (a,q)=Lib.itoa a ++ lc):=hid (by rw[HIC.out,if_pos h1]);have HIT:=hid (itoa_any a (by omega) (by have:=HRK.out.1.2.2.2;omega) wb (HG4.out.ext (HE1.out)));have hsl:=itoa_len a (by omega) (by have:=HRK.out.1.2.2.2;omega);obtain⟨sa,hsa⟩:∃ x,x=Lib.itoa a:=⟨_,rfl⟩
     rw[← hsa] at HS HIT hsl;have hle:¬ 9223372036854775807 < sa.length+lc.length:=by have:=HL1.out;omega
     have HSL:=hid hsl;clear hsa hsl h1;go_wp2_with fail;refine HIT.out.mono ?_;rintro e w10 ⟨rfl,hb10⟩;have HB2:=hid (builder_ext HB1.out hb10);have HU2:=hid (HU1.out.below hb10 HU1.out.lt);have HO2:=hid (HO1.out.ext hb10);have HE2:=hid (HE1.out.trans (hb10.mono HE1.out.size));clear hb10 P0 P1;have W:=put_any w4.heap.size w4.heap.size w5.heap.size t (sa ++ lc) w10 (.inr HB2.out) HU2.out (by have:=HB5s.out;omega) HB5s.out HE2.out.size (by have:=HLW.out;have:=HSL.out;have:=HL1.out;rw[List.length_append];omega);rw[← bytes_app sa lc,← HS.out,← HTK.out] at W;have HPW:=hid W;clear W;go_wp2_with fail;refine HPW.out.mono ?_;rintro e w11 ⟨rfl,hp⟩;have HB3:=hid hp.bld;have HU3:=hid hp.used;have HO3:=hid (own_kept HO2.out (by have:=HBS.out;have:=HS6.out;omega) (by have:=HBS.out;have:=HS6.out;omega) hp.kept);have HE3:=hid (HE2.out.trans hp.below);clear hp;go_wp2;go_roundw
     case rel=>exact⟨k+1,by omega,by go_num,HB3,HU3,HO3,HE3⟩
     case measure=>rw[hwk];exact meas_up hlt
    ·have d1:decide (1 < a)=false:=decide_eq_false h1;have HS:Hid (itemC (decide (top≤1)) (a,q)=lc):=hid (by rw[HIC.out,if_neg h1];rfl);have W:=put_any w4.heap.size w4.heap.size w5.heap.size t lc wb (.inr HB1.out) HU1.out (by have:=HB5s.out;omega) HB5s.out HE1.out.size (by have:=HLW.out;have:=HL1.out;omega);rw[← HS.out,← HTK.out,HS.out] at W;have HPW:=hid W;clear W h1;go_wp2_with fail;refine HPW.out.mono ?_;rintro e w11 ⟨rfl,hp⟩;have HB3:=hid hp.bld;have HU3:=hid hp.used;have HO3:=hid (own_kept HO1.out (by have:=HBS.out;have:=HS6.out;omega) (by have:=HBS.out;have:=HS6.out;omega) hp.kept);have HE3:=hid (HE1.out.trans hp.below);clear hp P0 P1;go_wp2;go_roundw
     case rel=>exact⟨k+1,by omega,by go_num,HB3,HU3,HO3,HE3⟩
     case measure=>rw[hwk];exact meas_up hlt
   ·obtain rfl:k=l.length:=by omega
    have htk:its.take l.length=its:=by rw[← HIL.out];exact List.take_length
    have hwl:=HWL.out l.length;rw[htk] at HB HU hwl;have HF3:Hid (fullT ps rule=(putL (wrapL L12 its) [33]).1 ++ (putL (wrapL L12 its) [33]).2 ++ [10]):=hid HF2.out;obtain⟨t,ht⟩:∃ t,t=wrapL L12 its:=⟨_,rfl⟩
    rw[← ht] at HB HU hwl HF3;have hpl:=put_len t [33];have W:Calls Tryz.prog 74 #[.string ⟨#[33]⟩,.pointer (some ⟨w5.heap.size,0,none⟩),.pointer (some ⟨w4.heap.size,0,none⟩)] wr fun e w'=>e=.returned (.tuple #[])∧PutR w4.heap.size w4.heap.size w5.heap.size (putL t [33]) wr w':=put_any w4.heap.size w4.heap.size w5.heap.size t [33] wr (.inr HB.out) HU.out (by have:=HB5s.out;omega) HB5s.out HE.out.size (by simp;omega);obtain⟨u,hu⟩:∃ u,u=putL t [33]:=⟨_,rfl⟩
    rw[← hu] at W hpl HF3;have HPW:=hid W;have HPL:Hid (u.1.length+u.2.length≤150000):=hid (by simp at hpl;omega);clear W htk ht hu hwl hpl;go_wp2_with fail;refine HPW.out.mono ?_;rintro e w9 ⟨rfl,hp⟩;have HE2:=hid (HE.out.trans hp.below);have W2:=writeByte_any w4.heap.size w4.heap.size (Lib.byteCells (u.1 ++ u.2)) 10 w9 (.inr hp.bld) (by rw[Lib.byteCells_length,List.length_append];have:=HPL.out;omega) HE2.out.size;rw[sc_nl] at W2;have HW2:=hid W2;clear W2 hp;go_wp2_with fail;refine HW2.out.mono ?_;rintro e w10 ⟨rfl,hb10,hbe10⟩;have HE3:=hid (HE2.out.trans hbe10);obtain⟨f,hf⟩:∃ f,f=u.1 ++ u.2 ++ [10]:=⟨_,rfl⟩
    rw[← hf] at hb10 HF3;have hfl:f.length≤150001:=by rw[hf,List.length_append,List.length_append];have:=HPL.out;simp;omega
    have HLE:=hid (Tryz.Builder_Len w4.heap.size w4.heap.size (Lib.byteCells f) w10 (.inr hb10));have HST:=hid (Tryz.Builder_String_any w4.heap.size w4.heap.size f w10 (.inr hb10) HE3.out.size);rw[Lib.byteCells_length] at HLE;rw[HF3.out] at HT;clear hb10 hbe10 hf;go_wp2_with fail;refine HLE.out.mono ?_;rintro e w11 ⟨rfl,hw11⟩;have hw12:=hw11.symm;clear hw11;subst hw12;by_cases h1:65536 < f.length
    ·have HN:Hid (textL ps rule=([],6)):=hid (by rw[HT.out,if_pos h1]);have d1:decide ((65536:Int) < (f.length:Int))=true:=decide_eq_true (by omega);go_wp2;go_ret2;rw[HN.out];exact⟨rfl,HBB.out.trans (HE3.out.mono HBB.out.size)⟩
    ·have HN:Hid (textL ps rule=(f,0)):=hid (by rw[HT.out,if_neg h1]);have d1:decide ((65536:Int) < (f.length:Int))=false:=decide_eq_false (by omega);go_wp2_with fail;refine HST.out.mono ?_;rintro e w12 ⟨rfl,hb12⟩;have HE4:=hid (HE3.out.trans hb12);clear hb12;go_wp2;go_ret2;rw[HN.out];exact⟨rfl,HBB.out.trans (HE4.out.mono HBB.out.size)⟩
end Go.Proofs.YtcfelnhmifkelaaGreatDoor
