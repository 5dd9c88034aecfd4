/-
  texts RunsR Name Dec BldK Txt0: parts of the proof; conditions stand with each theorem.
-/
import Derived.Test.YtcfelnhmifkelaaGreatDoorVG2
import Derived.Test.YtcfelnhmifkelaaGreatDoorVG0
import Derived.Test.YtcfelnhmifkelaaGreatDoorVShelf
import Derived.Laws.RangeAny
import Derived.Laws.Strings3
namespace Go.Proofs.YtcfelnhmifkelaaGreatDoor
open Go.RowKit
set_option maxRecDepth 100000
set_option linter.unusedVariables false
set_option linter.unusedSimpArgs false

end Go.Proofs.YtcfelnhmifkelaaGreatDoor
namespace Go.Proofs.YtcfelnhmifkelaaGreatDoor
open Lib(hid)
open Go.RowKit
set_option maxRecDepth 100000
set_option linter.unusedVariables false
set_option linter.unusedSimpArgs false

def isDig (c:UInt8):Bool:=decide (48≤(c.toNat:Int)) && decide ((c.toNat:Int)≤57)
def digOf (c:UInt8):Int:=(c.toNat:Int) - 48
theorem get_byte (s:ByteArray)(j:Nat)(h:j < s.size)(h':j < s.data.toList.length):s.data.toList[j]=s[j]:=by
 rfl
def nmB (c:UInt8):Bool:=!(decide ((c.toNat:Int) < 33) || decide (126 < (c.toNat:Int)))
def nameB (l:List UInt8):Bool:=l.all nmB && (decide (1≤l.length) && decide (l.length≤100))
theorem nameB_bad {l:List UInt8}{k:Nat}(hk:k < l.length)(hb:nmB l[k]=false):nameB l=false:=by
 unfold nameB;have:l.all nmB=false:=by
  cases h:l.all nmB
  ·rfl
  ·rw[List.all_eq_true] at h;rw[h _ (List.getElem_mem hk)] at hb;cases hb
 rw[this];rfl
theorem nm_take {l:List UInt8}{k:Nat}(hk:k < l.length)(h:(l.take k).all nmB=true) (hb:nmB l[k]=true):(l.take (k+1)).all nmB=true:=by
 rw[List.take_succ_eq_append_getElem hk,List.all_append,h];simp[hb]
theorem nameB_end {l:List UInt8}(h:(l.take l.length).all nmB=true):nameB l=(decide (1≤l.length) && decide (l.length≤100)):=by
 rw[List.take_length] at h;unfold nameB;rw[h,Bool.true_and]
set_option maxHeartbeats 1600000 in
theorem ruleName_any (s:ByteArray)(w:World)(hs:s.size≤2147483648):Calls Tryz.prog 72 #[.string s] w fun e w'=>e=.returned (.bool (nameB s.data.toList))∧w'=w:=by
 obtain⟨l,hl⟩:∃ l,l=s.data.toList:=⟨_,rfl⟩
 have hgb:∀ j (h:j < s.size) (h':j < l.length),l[j]=s[j]:=by subst hl;exact get_byte s
 have hlen:l.length=s.size:=by rw[hl];rfl
 rw[← hl];have HG:=hid (And.intro hlen hgb);clear hl hgb hlen;go_enter Tryz.func72,Tryz.ntmps72;go_wp2;go_loopw [6] (fun i wr=>∃ k:Nat,k≤s.size∧i=.int .i64 k∧wr=w∧Hid ((l.take k).all nmB=true)) (fun i _=>s.size - (intOf i).toNat)
 case atStart=>exact⟨0,Nat.zero_le _,rfl,rfl,hid rfl⟩
 case round=>
  obtain⟨k,hk,rfl,hw,HT⟩:=hrel;have hw2:=hw.symm;clear hw;subst hw2;by_cases hlt:k < s.size
  ·have hlt':k < l.length:=by rw[HG.out.1];exact hlt
   have hc0:(s[k].toNat:Int)≤255:=by have:=s[k].toNat_lt;omega
   have hnm:nmB l[k] = !(decide ((s[k].toNat:Int) < 33) || decide (126 < (s[k].toNat:Int))):=by rw[HG.out.2 k hlt hlt'];rfl
   have HD:=hid hnm;clear hnm;by_cases h1:(s[k].toNat:Int) < 33
   ·have d1:decide ((s[k].toNat:Int) < 33)=true:=decide_eq_true h1;have HN:=hid (nameB_bad hlt' (by rw[HD.out,d1];rfl));go_wp2;go_ret;exact⟨ret_bool HN.out.symm,rfl⟩
   ·have d1:decide ((s[k].toNat:Int) < 33)=false:=decide_eq_false h1;by_cases h2:126 < (s[k].toNat:Int)
    ·have d2:decide (126 < (s[k].toNat:Int))=true:=decide_eq_true h2;have HN:=hid (nameB_bad hlt' (by rw[HD.out,d1,d2];rfl));go_wp2;go_ret;exact⟨ret_bool HN.out.symm,rfl⟩
    ·have d2:decide (126 < (s[k].toNat:Int))=false:=decide_eq_false h2;have HN:=hid (nm_take hlt' HT.out (by rw[HD.out,d1,d2];rfl));go_wp2;go_roundw
     case rel=>exact⟨k+1,by omega,by go_num,(by first | rfl | trivial),HN⟩
     case measure=>simp[intOf];omega
  ·obtain rfl:k=s.size:=by omega
   have HN:Hid (nameB l=(decide (1≤s.size) && decide (s.size≤100))):=hid (by rw[nameB_end (by rw[HG.out.1];exact HT.out),HG.out.1]);by_cases h1:1≤s.size
   ·have d1:decide (1≤s.size)=true:=decide_eq_true h1;go_wp2;go_ret;rw[HN.out,d1];refine⟨ret_bool ?_,rfl⟩;simp <;> omega
   ·have d1:decide (1≤s.size)=false:=decide_eq_false h1;go_wp2;go_ret;rw[HN.out,d1];exact⟨rfl,rfl⟩
set_option maxHeartbeats 1600000 in
theorem named_any (s:ByteArray)(w:World)(hs:s.size≤2147483648):Calls Tryz.prog 107 #[.string s] w fun e w'=>e=.returned (.bool (nameB s.data.toList))∧w'=w:=by
 obtain⟨l,hl⟩:∃ l,l=s.data.toList:=⟨_,rfl⟩
 have hgb:∀ j (h:j < s.size) (h':j < l.length),l[j]=s[j]:=by subst hl;exact get_byte s
 have hlen:l.length=s.size:=by rw[hl];rfl
 rw[← hl];have HG:=hid (And.intro hlen hgb);clear hl hgb hlen;go_enter Tryz.func107,Tryz.ntmps107;go_wp2;go_loopw [3] (fun i wr=>∃ k:Nat,k≤s.size∧i=.int .i64 k∧wr=w∧Hid ((l.take k).all nmB=true)) (fun i _=>s.size - (intOf i).toNat)
 case atStart=>exact⟨0,Nat.zero_le _,rfl,rfl,hid rfl⟩
 case round=>
  obtain⟨k,hk,rfl,hw,HT⟩:=hrel;have hw2:=hw.symm;clear hw;subst hw2;by_cases hlt:k < s.size
  ·have hlt':k < l.length:=by rw[HG.out.1];exact hlt
   have hc0:(s[k].toNat:Int)≤255:=by have:=s[k].toNat_lt;omega
   have hnm:nmB l[k] = !(decide ((s[k].toNat:Int) < 33) || decide (126 < (s[k].toNat:Int))):=by rw[HG.out.2 k hlt hlt'];rfl
   have HD:=hid hnm;clear hnm;by_cases h1:(s[k].toNat:Int) < 33
   ·have d1:decide ((s[k].toNat:Int) < 33)=true:=decide_eq_true h1;have HN:=hid (nameB_bad hlt' (by rw[HD.out,d1];rfl));go_wp2;go_ret;exact⟨ret_bool HN.out.symm,rfl⟩
   ·have d1:decide ((s[k].toNat:Int) < 33)=false:=decide_eq_false h1;by_cases h2:126 < (s[k].toNat:Int)
    ·have d2:decide (126 < (s[k].toNat:Int))=true:=decide_eq_true h2;have HN:=hid (nameB_bad hlt' (by rw[HD.out,d1,d2];rfl));go_wp2;go_ret;exact⟨ret_bool HN.out.symm,rfl⟩
    ·have d2:decide (126 < (s[k].toNat:Int))=false:=decide_eq_false h2;have HN:=hid (nm_take hlt' HT.out (by rw[HD.out,d1,d2];rfl));go_wp2;go_roundw
     case rel=>exact⟨k+1,by omega,by go_num,(by first | rfl | trivial),HN⟩
     case measure=>simp[intOf];omega
  ·obtain rfl:k=s.size:=by omega
   have HN:Hid (nameB l=(decide (1≤s.size) && decide (s.size≤100))):=hid (by rw[nameB_end (by rw[HG.out.1];exact HT.out),HG.out.1]);by_cases h1:1≤s.size
   ·have d1:decide (1≤s.size)=true:=decide_eq_true h1;go_wp2;go_ret;rw[HN.out,d1];refine⟨ret_bool ?_,rfl⟩;simp <;> omega
   ·have d1:decide (1≤s.size)=false:=decide_eq_false h1;go_wp2;go_ret;rw[HN.out,d1];exact⟨rfl,rfl⟩
def stateC (c:Int):Int:=if c=98∨c=46 then 0 else if c=111 then 1 else if 65≤c∧c≤71 then c - 65+1 else if c=36 then -1 else -2
theorem stateC_b {c:Int}(h:c=98∨c=46):stateC c=0:=by unfold stateC;rw[if_pos h]
theorem stateC_o {c:Int}(h:c=111):stateC c=1:=by unfold stateC;rw[if_neg (by omega),if_pos h]
theorem stateC_l {c:Int}(h:65≤c∧c≤71):stateC c=c - 65+1:=by unfold stateC;rw[if_neg (by omega),if_neg (by omega),if_pos h]
theorem stateC_n {c:Int}(h0:¬ (c=98∨c=46)) (h1:¬ c=111)(h2:¬ (65≤c∧c≤71)) (h3:¬ c=36):stateC c = -2:=by unfold stateC;rw[if_neg h0,if_neg h1,if_neg h2,if_neg h3]
set_option maxHeartbeats 1600000 in
theorem state_any (c:Int)(w:World)(h0:0≤c)(h1:c≤2147483647):Calls Tryz.prog 138 #[.int .i32 c] w fun e w'=>e=.returned (.int .i64 (stateC c))∧w'=w:=by
 by_cases k1:c=98
 ·have HN:=hid (stateC_b (.inl k1));have d1:(c == 98)=true:=by simp[k1]
  go_enter Tryz.func138,Tryz.ntmps138;go_wp2;go_ret;exact⟨ret_int HN.out.symm,rfl⟩
 have d1:(c == 98)=false:=by simpa using k1
 by_cases k2:c=46
 ·have HN:=hid (stateC_b (.inr k2));have d2:(c == 46)=true:=by simp[k2]
  clear k1;go_enter Tryz.func138,Tryz.ntmps138;go_wp2;go_ret;exact⟨ret_int HN.out.symm,rfl⟩
 have d2:(c == 46)=false:=by simpa using k2
 by_cases k3:c=111
 ·have HN:=hid (stateC_o k3);have d3:(c == 111)=true:=by simp[k3]
  clear k1 k2;go_enter Tryz.func138,Tryz.ntmps138;go_wp2;go_ret;exact⟨ret_int HN.out.symm,rfl⟩
 have d3:(c == 111)=false:=by simpa using k3
 by_cases k4:65≤c
 ·have d4:decide (65≤c)=true:=decide_eq_true k4;by_cases k5:c≤71
  ·have d5:decide (c≤71)=true:=decide_eq_true k5;have HN:=hid (stateC_l (And.intro k4 k5));have hw1:wrap32 (c - 65)=c - 65:=by unfold wrap32;omega
   have hw2:wrap64 (c - 65)=c - 65:=by unfold wrap64;omega
   have hw3:wrap64 (c - 65+1)=c - 65+1:=by unfold wrap64;omega
   clear k1 k2 k3;go_enter Tryz.func138,Tryz.ntmps138;go_wp2;go_ret;exact⟨ret_int HN.out.symm,rfl⟩
  have d5:decide (c≤71)=false:=decide_eq_false k5;by_cases k6:c=36
  ·omega
  have d6:(c == 36)=false:=by simpa using k6
  have HN:=hid (stateC_n (c:=c) (by omega) k3 (by omega) k6);clear k1 k2 k3 k6;go_enter Tryz.func138,Tryz.ntmps138;go_wp2;go_ret;exact⟨ret_int HN.out.symm,rfl⟩
 have d4:decide (65≤c)=false:=decide_eq_false k4;by_cases k6:c=36
 ·subst k6;clear k1 k2 k3 k4 d1 d2 d3 d4;go_enter Tryz.func138,Tryz.ntmps138;go_wp2;go_ret;exact⟨rfl,rfl⟩
 have d6:(c == 36)=false:=by simpa using k6
 have HN:=hid (stateC_n (c:=c) (by omega) k3 (by omega) k6);clear k1 k2 k3 k6;go_enter Tryz.func138,Tryz.ntmps138;go_wp2;go_ret;exact⟨ret_int HN.out.symm,rfl⟩
set_option maxHeartbeats 1600000 in
theorem rstate_any (c:Int)(w:World)(h0:0≤c)(h1:c≤255):Calls Tryz.prog 109 #[.int .u8 c] w fun e w'=>e=.returned (.int .i64 (stateC c))∧w'=w:=by
 by_cases k1:c=98
 ·have HN:=hid (stateC_b (.inl k1));have d1:(c == 98)=true:=by simp[k1]
  go_enter Tryz.func109,Tryz.ntmps109;go_wp2;go_ret;exact⟨ret_int HN.out.symm,rfl⟩
 have d1:(c == 98)=false:=by simpa using k1
 by_cases k2:c=46
 ·have HN:=hid (stateC_b (.inr k2));have d2:(c == 46)=true:=by simp[k2]
  clear k1;go_enter Tryz.func109,Tryz.ntmps109;go_wp2;go_ret;exact⟨ret_int HN.out.symm,rfl⟩
 have d2:(c == 46)=false:=by simpa using k2
 by_cases k3:c=111
 ·have HN:=hid (stateC_o k3);have d3:(c == 111)=true:=by simp[k3]
  clear k1 k2;go_enter Tryz.func109,Tryz.ntmps109;go_wp2;go_ret;exact⟨ret_int HN.out.symm,rfl⟩
 have d3:(c == 111)=false:=by simpa using k3
 by_cases k4:65≤c
 ·have d4:decide (65≤c)=true:=decide_eq_true k4;by_cases k5:c≤71
  ·have d5:decide (c≤71)=true:=decide_eq_true k5;have HN:=hid (stateC_l (And.intro k4 k5));have hw1:wrap32 (c - 65)=c - 65:=by unfold wrap32;omega
   have hw2:wrap64 (c - 65)=c - 65:=by unfold wrap64;omega
   have hw3:wrap64 (c - 65+1)=c - 65+1:=by unfold wrap64;omega
   clear k1 k2 k3;go_enter Tryz.func109,Tryz.ntmps109;go_wp2;go_ret;exact⟨ret_int HN.out.symm,rfl⟩
  have d5:decide (c≤71)=false:=decide_eq_false k5;by_cases k6:c=36
  ·omega
  have d6:(c == 36)=false:=by simpa using k6
  have HN:=hid (stateC_n (c:=c) (by omega) k3 (by omega) k6);clear k1 k2 k3 k6;go_enter Tryz.func109,Tryz.ntmps109;go_wp2;go_ret;exact⟨ret_int HN.out.symm,rfl⟩
 have d4:decide (65≤c)=false:=decide_eq_false k4;by_cases k6:c=36
 ·subst k6;clear k1 k2 k3 k4 d1 d2 d3 d4;go_enter Tryz.func109,Tryz.ntmps109;go_wp2;go_ret;exact⟨rfl,rfl⟩
 have d6:(c == 36)=false:=by simpa using k6
 have HN:=hid (stateC_n (c:=c) (by omega) k3 (by omega) k6);clear k1 k2 k3 k6;go_enter Tryz.func109,Tryz.ntmps109;go_wp2;go_ret;exact⟨ret_int HN.out.symm,rfl⟩
def boS (k:Int):UInt8:=if k=0 then 98 else 111
def abcS (k:Int):UInt8:=if k=0 then 46 else UInt8.ofNat (64+k.toNat)
def letC (k:Int)(two:Bool):List UInt8:=if k < 0 then [36] else if two then [boS k] else [abcS k]
set_option maxHeartbeats 1600000 in
theorem letter_any (k:Int)(two:Bool)(w:World)(h1:k≤7)(h2:two=true→k≤1):Calls Tryz.prog 78 #[.int .i64 k,.bool two] w fun e w'=>e=.returned (.string ⟨(letC k two).toArray⟩)∧w'=w:=by
 by_cases h0:k < 0
 ·have d0:decide (k < 0)=true:=decide_eq_true h0;have HN:Hid (letC k two=[36]):=hid (by unfold letC;rw[if_pos h0]);go_enter Tryz.func78,Tryz.ntmps78;go_wp2;go_ret;rw[HN.out];exact⟨rfl,rfl⟩
 ·cases two
  ·obtain rfl | rfl | rfl | rfl | rfl | rfl | rfl | rfl:k=0∨k=1∨k=2∨k=3∨k=4∨k=5∨k=6∨k=7:=by omega
   all_goals
    go_enter Tryz.func78,Tryz.ntmps78;go_wp2;go_ret;exact⟨rfl,rfl⟩
  ·have:=h2 rfl;obtain rfl | rfl:k=0∨k=1:=by omega
   all_goals
    go_enter Tryz.func78,Tryz.ntmps78;go_wp2;go_ret;exact⟨rfl,rfl⟩
end Go.Proofs.YtcfelnhmifkelaaGreatDoor
namespace Go.Proofs.YtcfelnhmifkelaaGreatDoor
open Go.RowKit
set_option maxRecDepth 100000
set_option linter.unusedVariables false
set_option linter.unusedSimpArgs false

theorem dec_small {n:Nat}(h:n < 10):Lib.decDigits n=[UInt8.ofNat (48+n)]:=by rw[Lib.decDigits,dif_pos h]
theorem dec_len1 {k:Nat}(hk:1≤k)(n:Nat)(h:n < 10 ^ k):(Lib.decDigits n).length≤k:=by
 induction k generalizing n with
 | zero=>omega
 | succ k ih=>
  by_cases hs:n < 10
  ·rw[dec_small hs];simp
  ·by_cases hk0:k=0
   ·subst hk0;simp at h;omega
   ·rw[Lib.decDigits,dif_neg hs,List.length_append];have:=ih (by omega) (n / 10) (by rw[Nat.pow_succ] at h;omega)
    simp;omega
theorem bytes_app (a b:List UInt8):(⟨a.toArray⟩:ByteArray) ++ ⟨b.toArray⟩=⟨(a ++ b).toArray⟩:=by
 rw[ByteArray.ext_iff,ByteArray.data_append]
 simp
theorem itoa_nat (n:Nat):Lib.itoa (n:Int)=Lib.decDigits n:=by
 unfold Lib.itoa;rw[if_neg (by omega)];rfl
def itemC (two:Bool)(r:Int × Int):List UInt8:=(if 1 < r.1 then Lib.itoa r.1 else []) ++ letC r.2 two

def Kept (b:Nat)(w w':World):Prop:=∀ g t cs,5≠t→g≠b→Blk w g t cs→Blk w' g t cs
theorem Kept.refl (b:Nat)(w:World):Kept b w w:=fun _ _ _ _ _ h=>h
theorem Kept.setCell {b:Nat}{u w:World}(h:Kept b u w)(i:Nat)(x:Value):Kept b u (w.setCell ⟨b,i,none⟩ x):=fun g t cs h1 h2 h3=>(h g t cs h1 h2 h3).far h2 x
theorem copyCheckK_any (B b:Nat)(bs:List Value)(w:World)(h:Lib.IsBuilder 97 5 B b bs w) :
  Calls Tryz.prog 110 #[.pointer (some ⟨b,0,none⟩)] w fun e w'=>e=.returned (.tuple #[])∧(Lib.BuilderAt 97 5 B b (.pointer (some ⟨b,0,none⟩)) bs w'∧Below B w w'∧Kept b w w'):=by
 rcases h with h | h
 ·refine (copyCheck_fresh b w h.cell0 h.shape h.frozen0).mono ?_;rintro e w' ⟨rfl,rfl⟩;exact⟨rfl,h.used _,(Below.refl B w).setCell (p:=⟨b,0,none⟩) h.1 _,(Kept.refl b w).setCell 0 _⟩
 ·refine (copyCheck_used b w h.cell0).mono ?_;rintro e w' ⟨rfl,rfl⟩;exact⟨rfl,h,Below.refl B _,Kept.refl b _⟩
set_option maxHeartbeats 2000000 in
theorem writeByteK_any (B b:Nat)(bs:List Value)(c:Int)(w:World)(h:Lib.IsBuilder 97 5 B b bs w)(hlen:bs.length+1≤140737488355328)(hBw:B≤w.heap.size) :
  Calls Tryz.prog 75 #[.pointer (some ⟨b,0,none⟩),.int .u8 c] w fun e w'=>e=.returned .nilIface∧(Lib.BuilderAt 97 5 B b (.pointer (some ⟨b,0,none⟩)) (bs ++ [.int .u8 c]) w'∧Below B w w'∧Kept b w w'):=by
 obtain⟨i0,hi,hz0,hz1,hz2⟩:=info_parts Tryz.infoByte;go_enter Tryz.func75,Tryz.ntmps75;go_wp2_with (go_at_call 110;refine (copyCheckK_any B b bs _ h).mono ?_);rintro e w1 ⟨rfl,h1,hb1,hk1⟩;obtain⟨hB,v,hbk,hown,hne⟩:=h1;have c0:w1.cell? ⟨b,0,none⟩=some (.pointer (some ⟨b,0,none⟩)):=by rw[Lib.cell_of_heap hbk];rfl
 have c1:w1.cell? ⟨b,1,none⟩=some v:=by rw[Lib.cell_of_heap hbk];rfl
 go_wp2_with (at_builtin;refine wpList_append_own _ rfl _ _ 95 rfl B 5 i0 (.int .u8 0) 1 1 Tryz.underlying95 hi hz0 hz1 hz2 rfl (by decide) _ _ _ rfl (hown.alloc _) ⟨w1.heap.size,0,none⟩ 1 1 [.int .u8 c] rfl rfl ?c1 ?c2 ?c3 ?c4 ?c5 ?_)
 case c1=>
  intro j u hj
  match j,hj with
  | 0,hj=>simp at hj;subst hj;simp[Addr.add]
 case c2=>intro u hu;simp at hu;subst hu;rfl
 case c3=>unfold maxLen;omega
 case c4=>omega
 case c5=>have:=hb1.size;simp;omega
 intro v' w2 hown' hgrow _;have hlt:b < w1.heap.size:=by
  rcases Nat.lt_or_ge b w1.heap.size with h' | h'
  ·exact h'
  ·simp[Array.getElem?_eq_none h'] at hbk
 have hb2:w2.heap[b]?=some (.cells #[.pointer (some ⟨b,0,none⟩),v] 97 (0,0)):=by
  rw[hgrow.block b (by simp;omega) (fun e=>hne e.symm),Lib.alloc_old w1 _ b hlt];exact hbk
 have d0:w2.cell? ⟨b,0,none⟩=some (.pointer (some ⟨b,0,none⟩)):=by rw[Lib.cell_of_heap hb2];rfl
 have d1:w2.cell? ⟨b,1,none⟩=some v:=by rw[Lib.cell_of_heap hb2];rfl
 have f1:w2.frozen? ⟨b,1,none⟩=false:=Lib.frozen_of_heap hb2 1;obtain⟨g,cap,rfl⟩:∃ g cap,v'=.slice (some ⟨g,0,none⟩) (bs.length+1) cap:=by
  rcases hown'.2 with ⟨_,h0⟩ | ⟨g,cap,cur,hv,_⟩
  ·omega
  ·exact⟨g,cap,hv⟩
 go_wp2;go_ret;refine⟨rfl,?_,?_,?_⟩
 ·exact Lib.BuilderAt.put (T:=97) (e:=5) hB hb2 (bs':=bs ++ [.int .u8 c]) (by simpa using hown') (by decide)
 ·exact ((hb1.alloc (by have:=hb1.size;omega) _).grown hgrow (by have:=hb1.size;simp;omega) (fun k hk=>(hown.lt k hk).1)).setCell (p:=⟨b,1,none⟩) hB _
 ·intro g t cs h1 h2 h3;exact ((((hk1 g t cs h1 h2 h3).alloc _).grown hgrow (fun e=>own_blk_ne hown (hk1 g t cs h1 h2 h3) h1 e.symm)).far h2 _)
set_option maxHeartbeats 2000000 in
theorem writeStringK_any (B b:Nat)(bs:List Value)(s:ByteArray)(w:World)(h:Lib.IsBuilder 97 5 B b bs w)(hlen:bs.length+s.size≤140737488355328)(hBw:B≤w.heap.size) :
  Calls Tryz.prog 73 #[.pointer (some ⟨b,0,none⟩),.string s] w fun e w'=>e=.returned (.tuple #[.int .i64 s.size,.nilIface])∧(Lib.BuilderAt 97 5 B b (.pointer (some ⟨b,0,none⟩)) (bs ++ Lib.strCells s) w'∧Below B w w'∧Kept b w w'):=by
 obtain⟨i0,hi,hz0,hz1,hz2⟩:=info_parts Tryz.infoByte;go_enter Tryz.func73,Tryz.ntmps73;go_wp2_with (go_at_call 110;refine (copyCheckK_any B b bs _ h).mono ?_);rintro e w1 ⟨rfl,h1,hb1,hk1⟩;obtain⟨hB,v,hbk,hown,hne⟩:=h1;have c0:w1.cell? ⟨b,0,none⟩=some (.pointer (some ⟨b,0,none⟩)):=by rw[Lib.cell_of_heap hbk];rfl
 have c1:w1.cell? ⟨b,1,none⟩=some v:=by rw[Lib.cell_of_heap hbk];rfl
 go_wp2_with (at_builtin;refine Lib.wpList_append_own_string _ rfl _ _ 95 9 rfl B 5 i0 Tryz.underlying95 Tryz.underlying9 hi hz0 hz1 hz2 _ _ _ rfl hown s rfl ?c3 ?c4 ?c5 ?_)
 case c3=>unfold maxLen;omega
 case c4=>omega
 case c5=>have:=hb1.size;omega
 intro v' w2 hown' hgrow _;have hlt:b < w1.heap.size:=by
  rcases Nat.lt_or_ge b w1.heap.size with h' | h'
  ·exact h'
  ·simp[Array.getElem?_eq_none h'] at hbk
 have hb2:w2.heap[b]?=some (.cells #[.pointer (some ⟨b,0,none⟩),v] 97 (0,0)):=by
  rw[hgrow.block b hlt (fun e=>hne e.symm)];exact hbk
 have d0:w2.cell? ⟨b,0,none⟩=some (.pointer (some ⟨b,0,none⟩)):=by rw[Lib.cell_of_heap hb2];rfl
 have d1:w2.cell? ⟨b,1,none⟩=some v:=by rw[Lib.cell_of_heap hb2];rfl
 have f1:w2.frozen? ⟨b,1,none⟩=false:=Lib.frozen_of_heap hb2 1;obtain⟨ao,n',cap,rfl⟩:∃ ao n' cap,v'=.slice ao n' cap:=by
  rcases hown'.2 with ⟨hv,_⟩ | ⟨g,cap,cur,hv,_⟩
  ·exact⟨_,_,_,hv⟩
  ·exact⟨_,_,_,hv⟩
 go_wp2;go_ret2;refine⟨rfl,?_,?_,?_⟩
 ·exact Lib.BuilderAt.put (T:=97) (e:=5) hB hb2 (bs':=bs ++ Lib.strCells s) (by simpa [Lib.strCells_length] using hown') (by decide)
 ·exact (hb1.grown hgrow (by have:=hb1.size;omega) (fun k hk=>(hown.lt k hk).1)).setCell (p:=⟨b,1,none⟩) hB _
 ·intro g t cs h1 h2 h3;exact (((hk1 g t cs h1 h2 h3).grown hgrow (fun e=>own_blk_ne hown (hk1 g t cs h1 h2 h3) h1 e.symm)).far h2 _)
end Go.Proofs.YtcfelnhmifkelaaGreatDoor
namespace Go.Proofs.YtcfelnhmifkelaaGreatDoor
open Lib(hid)
open Go.RowKit
set_option maxRecDepth 100000
set_option linter.unusedVariables false
set_option linter.unusedSimpArgs false

def putL (t:List UInt8 × List UInt8)(s:List UInt8):List UInt8 × List UInt8:=if 70 < t.2.length+s.length then (t.1 ++ t.2 ++ [10],s) else (t.1,t.2 ++ s)
def headL (b:Bx)(rule:List UInt8):List UInt8:=[120,32,61,32] ++ Lib.itoa b.w ++ [44,32,121,32,61,32] ++ Lib.itoa b.h ++ [44,32,114,117,108,101,32,61,32] ++ rule ++ [10]
def itemsL (ps:List Cel):List (List UInt8):=(runsL ps).map (itemC (decide (topC ps≤1)))
def wrapL (h:List UInt8)(l:List (List UInt8)):List UInt8 × List UInt8:=l.foldl putL (h,[])
def endL (t:List UInt8 × List UInt8):List UInt8:=(putL t [33]).1 ++ (putL t [33]).2 ++ [10]
def fullT (ps:List Cel)(rule:List UInt8):List UInt8:=endL (wrapL (headL (boxC ps).1 rule) (itemsL ps))
def textL (ps:List Cel)(rule:List UInt8):List UInt8 × Int:=
 if rightC ps=false then ([],2) else if nameB rule=false then ([],7) else if 1048577 < (boxC ps).1.w∨1048577 < (boxC ps).1.h then ([],5)
 else if 65536 < (fullT ps rule).length then ([],6) else (fullT ps rule,0)
theorem builder_ext {T e:TypeId}{B b:Nat}{p:Value}{bs:List Value}{w w':World}(h:Lib.BuilderAt T e B b p bs w)(hb:Below w.heap.size w w'):Lib.BuilderAt T e B b p bs w':=by
 have hlt:=h.lt;obtain⟨hB,v,h1,h2,h3⟩:=h;exact⟨hB,v,by rw[hb.block b hlt];exact h1,own_below h2 hb,h3⟩
theorem own_far {base:Nat}{e:TypeId}{size n:Nat}{v:Value}{xs:List Value}{w:World}(h:w.ownsRow base e size v n xs){g:Nat}(hg:v.ownBlock≠some g)(i:Nat)(u:Value):(w.setCell ⟨g,i,none⟩ u).ownsRow base e size v n xs:=by
 obtain⟨h1,h2⟩:=h;refine⟨h1,?_⟩;rcases h2 with h2 | ⟨g',cap,cur,h3,h4,h5,h6⟩
 ·exact .inl h2
 ·refine .inr ⟨g',cap,cur,h3,h4,?_,h6⟩;subst h3;have hne:g'≠g:=by
   intro e';apply hg;rw[e'];rfl
  exact (Below.heap_setCell w ⟨g,i,none⟩ u g' hne).trans h5
theorem builder_far {T e t:TypeId}{B b g:Nat}{p:Value}{bs cs:List Value}{w:World}(h:Lib.BuilderAt T e B b p bs w)(hg:Blk w g t cs.toArray)(hne:g≠b)(ht:e≠t)(i:Nat)(u:Value):Lib.BuilderAt T e B b p bs (w.setCell ⟨g,i,none⟩ u):=by
 obtain⟨hB,v,h1,h2,h3⟩:=h;exact⟨hB,v,(Below.heap_setCell w ⟨g,i,none⟩ u b (fun e'=>hne e'.symm)).trans h1,own_far h2 (own_blk_ne h2 hg ht) i u,h3⟩
theorem put_len (t:List UInt8 × List UInt8)(s:List UInt8):(putL t s).1.length+(putL t s).2.length≤t.1.length+t.2.length+s.length+1:=by
 unfold putL
 split
 ·simp;omega
 ·simp;omega
theorem put_yes {t:List UInt8 × List UInt8}{s:List UInt8}(h:70 < t.2.length+s.length):putL t s=(t.1 ++ t.2 ++ [10],s):=by unfold putL;rw[if_pos h]
theorem put_no {t:List UInt8 × List UInt8}{s:List UInt8}(h:¬ 70 < t.2.length+s.length):putL t s=(t.1,t.2 ++ s):=by unfold putL;rw[if_neg h]
theorem sc_app (l s:List UInt8):Lib.byteCells l ++ Lib.strCells ⟨s.toArray⟩=Lib.byteCells (l ++ s):=by simp[Lib.byteCells,Lib.strCells]
theorem sc_nl (l:List UInt8):Lib.byteCells l ++ [.int .u8 10]=Lib.byteCells (l ++ [10]):=by simp[Lib.byteCells]
structure PutR (B b g:Nat)(t:List UInt8 × List UInt8)(w w':World):Prop where
 bld:Lib.BuilderAt 97 5 B b (.pointer (some ⟨b,0,none⟩)) (Lib.byteCells (t.1 ++ t.2)) w'
 used:Blk w' g 3 #[.int .i64 t.2.length]
 below:Below B w w'
 kept:∀ g' t' cs,5≠t'→g'≠b→g'≠g→Blk w g' t' cs→Blk w' g' t' cs
set_option maxHeartbeats 2000000 in
theorem put_any (B b g:Nat)(t:List UInt8 × List UInt8)(s:List UInt8)(w:World)(hI:Lib.IsBuilder 97 5 B b (Lib.byteCells (t.1 ++ t.2)) w) (hu:Blk w g 3 #[.int .i64 t.2.length])
  (hgb:g≠b) (hg:B≤g) (hBw:B≤w.heap.size) (hlen:t.1.length+t.2.length+s.length≤1000000) :
  Calls Tryz.prog 74 #[.string ⟨s.toArray⟩,.pointer (some ⟨g,0,none⟩),.pointer (some ⟨b,0,none⟩)] w fun e w'=>e=.returned (.tuple #[])∧PutR B b g (putL t s) w w':=by
 have hsz:(⟨s.toArray⟩:ByteArray).size=s.length:=by simp[ByteArray.size]
 have hwa:wrap64 ((t.2.length:Int)+(s.length:Int))=(t.2.length:Int)+(s.length:Int):=by unfold wrap64;omega
 have c0:=hu.cell_ 0 (.int .i64 t.2.length) rfl;have hpl:(t.1 ++ t.2).length≤1000000:=by simp;omega
 have HU:=hid hu;by_cases h1:70 < t.2.length+s.length
 ·have HP:=hid (put_yes (t:=t) (s:=s) (by omega));have d1:decide ((70:Int) < (t.2.length:Int)+(s.length:Int))=true:=decide_eq_true (by omega);have W1:=writeByteK_any B b (Lib.byteCells (t.1 ++ t.2)) 10 w hI (by rw[Lib.byteCells_length];omega) hBw;rw[sc_nl] at W1;have HW1:=hid W1;clear W1 hI hu;go_enter Tryz.func74,Tryz.ntmps74;go_wp2_with fail;refine HW1.out.mono ?_;rintro e w1 ⟨rfl,hb1,hbe1,hk1⟩;have hu1:=hk1 g _ _ (by decide) hgb HU.out;have f1:=hu1.frozen 0;have c1:=hu1.cell_ 0 (.int .i64 t.2.length) rfl;have hb2:=builder_far (cs:=[.int .i64 t.2.length]) hb1 hu1 hgb (by decide) 0 (.int .i64 0);have hu2:=hu1.set_ 0 (.int .i64 0);have HB1:=hid hbe1;have HK1:=hid hk1;clear hb1 hu1 c0 hbe1 hk1;have HS2:=hid (hu2);have W2:=writeStringK_any B b (Lib.byteCells (t.1 ++ t.2 ++ [10])) ⟨s.toArray⟩ _ (.inr hb2) (by rw[Lib.byteCells_length,hsz,List.length_append];simp;omega) (Nat.le_trans hBw (by have:=HB1.out.size;simpa [World.setCell] using this));rw[sc_app] at W2;have HW2:=hid W2;clear W2 hb2 hu2;go_wp2_with fail;refine HW2.out.mono ?_;rintro e w2 ⟨rfl,hb3,hbe3,hk3⟩;have hu3:=hk3 g _ _ (by decide) hgb HS2.out;have c3:=hu3.cell_ 0 (.int .i64 0) rfl;have f3:=hu3.frozen 0;have HB3:=hid hbe3;have HK3:=hid hk3;have HB:=hid hb3;have HU3:=hid hu3;clear hu3 hbe3 hk3 hb3 f1;go_wp2
  go_end0
  refine⟨rfl,?_⟩;rw[HP.out];refine⟨?_,?_,?_,?_⟩
  ·exact builder_far (cs:=[.int .i64 0]) HB.out HU3.out hgb (by decide) 0 _
  ·dsimp only;simpa using HU3.out.set_ 0 (.int .i64 s.length)
  ·exact ((HB1.out.setCell (p:=⟨g,0,none⟩) hg _).trans HB3.out).setCell (p:=⟨g,0,none⟩) hg _
  ·intro g' t' cs h1 h2 h3 h4;exact (HK3.out g' t' cs h1 h2 ((HK1.out g' t' cs h1 h2 h4).far h3 _)).far h3 _
 ·have HP:=hid (put_no (t:=t) (s:=s) (by omega));have d1:decide ((70:Int) < (t.2.length:Int)+(s.length:Int))=false:=decide_eq_false (by omega);have W2:=writeStringK_any B b (Lib.byteCells (t.1 ++ t.2)) ⟨s.toArray⟩ w hI (by rw[Lib.byteCells_length,hsz];omega) hBw;rw[sc_app] at W2;have HW2:=hid W2;clear W2 hI hu;go_enter Tryz.func74,Tryz.ntmps74;go_wp2_with fail;refine HW2.out.mono ?_;rintro e w2 ⟨rfl,hb3,hbe3,hk3⟩;have hu3:=hk3 g _ _ (by decide) hgb HU.out;have c3:=hu3.cell_ 0 (.int .i64 t.2.length) rfl;have f3:=hu3.frozen 0;have HB3:=hid hbe3;have HK3:=hid hk3;have HB:=hid hb3;have HU3:=hid hu3;clear hu3 hbe3 hk3 hb3 c0;go_wp2
  go_end0
  refine⟨rfl,?_⟩;rw[HP.out];refine⟨?_,?_,?_,?_⟩
  ·have:=builder_far (cs:=[.int .i64 t.2.length]) HB.out HU3.out hgb (by decide) 0 (.int .i64 ((t.2.length:Int)+s.length));simpa using this
  ·dsimp only;rw[List.length_append];simpa using HU3.out.set_ 0 (.int .i64 ((t.2.length:Int)+s.length))
  ·exact HB3.out.setCell (p:=⟨g,0,none⟩) hg _
  ·intro g' t' cs h1 h2 h3 h4;exact (HK3.out g' t' cs h1 h2 h4).far h3 _
end Go.Proofs.YtcfelnhmifkelaaGreatDoor
