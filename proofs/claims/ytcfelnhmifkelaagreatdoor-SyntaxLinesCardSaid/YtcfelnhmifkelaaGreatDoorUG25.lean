/-
  texts Join56 Rpl56: parts of the proof; conditions stand with each theorem.
-/
import Derived.Test.YtcfelnhmifkelaaGreatDoorUG20
import Derived.Test.YtcfelnhmifkelaaGreatDoorUG0
import Derived.Test.YtcfelnhmifkelaaGreatDoorUG21
import Derived.Test.YtcfelnhmifkelaaGreatDoorUG23
import Derived.Test.YtcfelnhmifkelaaGreatDoorUShelf
import Derived.Lib.Replace
namespace Go.Proofs.YtcfelnhmifkelaaGreatDoor
open Lib(hid)
open Go.RowKit
set_option maxRecDepth 100000
set_option linter.unusedVariables false
set_option linter.unusedSimpArgs false
def sumB (bs:List ByteArray):Nat:=(bs.map (·.size)).sum
theorem sumB_snoc {bs:List ByteArray}{k:Nat}(h:k < bs.length):sumB (bs.take (k+1))=sumB (bs.take k)+bs[k].size:=by
 unfold sumB;rw[List.take_succ_eq_append_getElem h,List.map_append,List.sum_append];rfl
theorem sumB_le {bs:List ByteArray}{m:Nat}(h:∀ b ∈ bs,b.size≤m):sumB bs≤bs.length*m:=by
 induction bs with
 | nil=>exact Nat.zero_le _
 | cons b l ih=>
  have h1:=ih (fun x hx=>h x (List.mem_cons_of_mem _ hx));have h2:=h b List.mem_cons_self;unfold sumB at h1 ⊢;rw[List.map_cons,List.sum_cons,List.length_cons,Nat.succ_mul];omega
theorem joinT_snoc {bs:List ByteArray}{k:Nat}(h0:0 < k)(h:k < bs.length):joinW (wdL (bs.take (k+1)))=joinW (wdL (bs.take k)) ++ ([32] ++ bs[k].data.toList):=by
 rw[List.take_succ_eq_append_getElem h];unfold wdL;rw[List.map_append];refine joinW_snoc ?_ _;intro e;have:=congrArg List.length e;simp only[List.length_map,List.length_take,List.length_nil] at this;omega
theorem joinT_one {bs:List ByteArray}(h:0 < bs.length):joinW (wdL (bs.take 1))=bs[0].data.toList:=by
 cases bs with
 | nil=>simp at h
 | cons b l=>rfl
theorem strCells_b (b:ByteArray):Lib.strCells b=Lib.byteCells b.data.toList:=Lib.strCells_eq b
set_option maxHeartbeats 8000000 in
theorem join_any (A:Option Addr)(c:Nat)(bs:List ByteArray)(w:World)(hA:Sts w A bs)(hn:bs.length≤100)(hm:∀ b ∈ bs,b.size≤100000)(hc:bs.length≤c) :
  Calls Tryz.prog 36 #[.slice A bs.length c,.string ⟨#[32]⟩] w fun e w'=>e=.returned (.string ⟨(joinW (wdL bs)).toArray⟩)∧Below w.heap.size w w':=by
 obtain⟨r,hr⟩:∃ r,r=joinW (wdL bs):=⟨_,rfl⟩
 rw[← hr];have HR:=hid hr;have HA:=hid hA;have HM:=hid hm;clear hr hA hm;by_cases h0:bs.length=0
 ·have hn0:bs=[]:=List.length_eq_zero_iff.1 h0;have HN:Hid (r=[]):=hid (by rw[HR.out,hn0];rfl);have e0:((bs.length:Int) == 0)=true:=by rw[h0];rfl
  go_enter Tryz.func36,Tryz.ntmps36;go_wp2;go_ret;exact⟨by rw[HN.out];rfl,Below.refl _ _⟩
 have e0:((bs.length:Int) == 0)=false:=beq_false_of_ne (by omega);obtain⟨b,o,rfl,hbl,c0⟩:=HA.out.at_ (k:=0) (by omega);rw[Nat.add_zero] at c0;by_cases h1:bs.length=1
 ·have e1:((bs.length:Int) == 1)=true:=by rw[h1];rfl
  have HN:Hid (r=bs[0].data.toList):=hid (by rw[HR.out];have:=joinT_one (bs:=bs) (by omega);rw[List.take_of_length_le (by omega)] at this;exact this);have hpos:0 < bs.length:=by omega
  obtain⟨z,hz⟩:∃ z,z=bs[0]:=⟨_,rfl⟩
  rw[← hz] at c0 HN;clear hz;go_enter Tryz.func36,Tryz.ntmps36;go_wp2;go_ret;exact⟨by rw[HN.out,ba_eta];rfl,Below.refl _ _⟩
 have e1:((bs.length:Int) == 1)=false:=beq_false_of_ne (by omega);have hlen:2≤bs.length:=by omega
 obtain⟨z,hz⟩:∃ z,z=bs[0]'(by omega):=⟨_,rfl⟩
 have HZ1:Hid (joinW (wdL (bs.take 1))=z.data.toList):=hid (by rw[hz];exact joinT_one (by omega));have hzm:z.size≤100000:=by rw[hz];exact HM.out _ (List.getElem_mem _)
 rw[← hz] at c0;clear hz;obtain⟨m,hmm⟩:∃ m,bs.length=m+1:=⟨bs.length - 1,by omega⟩
 have hw1:wrap64 ((bs.length:Int) - 1)=(m:Int):=by unfold wrap64;omega
 have hm1:1≤m:=by omega
 have hm9:m≤99:=by omega
 have hq:¬ ((9223372036854775807:Int) / (m:Int)≤1):=by
  have:(2:Int)≤9223372036854775807 / (m:Int):=(Int.le_ediv_iff_mul_le (by omega)).2 (by omega);omega
 have hqd:decide ((9223372036854775807:Int) / (m:Int)≤1)=false:=decide_eq_false hq;have hm0:((m:Int) == 0)=false:=beq_false_of_ne (by omega);have hwm:wrap64 ((m:Int))=(m:Int):=by unfold wrap64;omega
 have hpos:0 < bs.length:=by omega
 have HSUM:Hid (sumB bs≤10000000):=hid (by have:=sumB_le HM.out;have h2:bs.length*100000≤100*100000:=Nat.mul_le_mul_right _ hn;omega);go_enter Tryz.func36,Tryz.ntmps36;go_upto_region 11 with fail
 have HMM:=hid hmm;have HZM:=hid hzm;clear hzm;have HPOS:=hid hpos;clear hq hqd hm0 hwm hw1 hmm hlen hn e0 e1 h0 h1;go_wp2;go_loopw [5,41] (fun nv iv wr=>∃ k:Nat,k≤bs.length∧nv=.int .i64 ((m+sumB (bs.take k):Nat):Int)∧iv=.int .i64 (k:Int)∧w=wr) (fun _ iv _=>bs.length - (intOf iv).toNat)
 case atStart=>exact⟨0,Nat.zero_le _,rfl,rfl,rfl⟩
 case round=>
  obtain⟨k,hk,rfl,rfl,rfl⟩:=hrel;have hwk:wrap64 ((k:Int)+1)=(k:Int)+1:=by have:=HMM.out;unfold wrap64;omega
  by_cases hlt:k < bs.length
  ·obtain⟨b1,o1,e1,-,ck⟩:=HA.out.at_ hlt;injection e1 with e1
   injection e1 with e1 e2
   subst e1 e2;have hsn:=sumB_snoc hlt;have hym:=HM.out _ (List.getElem_mem hlt);have hle:sumB (bs.take (k+1))≤10000000:=by
    have h1:=sumB_le (bs:=bs.take (k+1)) (m:=100000) (fun x hx=>HM.out x (List.mem_of_mem_take hx));have h2:(bs.take (k+1)).length≤100:=by rw[List.length_take];have:=HMM.out;omega
    have h3:(bs.take (k+1)).length*100000≤100*100000:=Nat.mul_le_mul_right _ h2;omega
   obtain⟨y,hy⟩:∃ y,y=bs[k]:=⟨_,rfl⟩
   rw[← hy] at ck hsn hym;obtain⟨N,hN⟩:∃ N,N=m+sumB (bs.take k):=⟨_,rfl⟩
   have HSN:Hid (m+sumB (bs.take (k+1))=N+y.size):=hid (by omega);have hNb:N+y.size≤10000200:=by omega
   rw[← hN];obtain⟨Z,hZ⟩:∃ Z:Int,Z=9223372036854775807 - (N:Int):=⟨_,rfl⟩
   have hs1:wrap64 (9223372036854775807 - (N:Int))=Z:=by rw[hZ];unfold wrap64;omega
   have hs2:¬ (Z < (y.size:Int)):=by omega
   have hs2d:decide (Z < (y.size:Int))=false:=decide_eq_false hs2;have hs3:wrap64 ((N:Int)+(y.size:Int))=((N+y.size:Nat):Int):=by unfold wrap64;omega
   have HLT:=hid hlt;clear hy hN hsn hym hle hNb hZ;go_wp2;go_roundw
   case rel=>exact⟨k+1,HLT.out,(by rw[HSN.out];first | rfl | (rw[hs3])),(by first | rfl | (rw[hwk];rfl)),(by first | rfl | trivial)⟩
   case measure=>(try rw[hwk]);exact meas_step5b HLT.out
  ·have hek:k=bs.length:=by omega
   obtain⟨N,hN⟩:∃ N,N=m+sumB (bs.take k):=⟨_,rfl⟩
   have hNb:N≤10000200:=by rw[hN,hek,List.take_length];have:=HSUM.out;omega
   rw[← hN];have dk:decide ((k:Int) < bs.length)=false:=decide_eq_false (by omega);have hnlt:¬ k < bs.length:=hlt;have HC:=hid hc;have HM1:=hid hm1;have HM9:=hid hm9;have HNB:=hid hNb;clear hN hek hwk hc hm1 hm9 hNb hk;have b0:Below w.heap.size w (w.alloc (.cells #[.pointer none,.slice none 0 0] 97)):=(Below.refl _ w).alloc (Nat.le_refl _) _;have cG:=Tryz.Builder_Grow_fresh w.heap.size w.heap.size N (w.alloc (.cells #[.pointer none,.slice none 0 0] 97)) (Nat.le_refl _) (heap_alloc_new w _) b0.size (by have:=HNB.out;omega);go_wp2_with (go_at_call 84;refine cG.mono ?_;rintro e W1 ⟨rfl,h1,b1⟩;refine Hid.out ?_);refine hid ?_;clear cG;have cW:=writeString_any w.heap.size w.heap.size [] z W1 (.inr h1) (by have:=HZM.out;show 0+z.size≤_;omega) (Nat.le_trans b0.size b1.size);have c0':=(b0.cell (World.block_lt_of_cell? _ _ c0)).trans c0;have c01:=(b1.cell (World.block_lt_of_cell? _ _ c0)).trans c0';have hpos:=HPOS.out;have hc1:¬ c=1:=by have:=HC.out;have:=HMM.out;have:=HM1.out;omega
   have hc2:1≤c:=by have:=HC.out;omega
   go_wp2_with (go_at_call 73;refine cW.mono ?_;rintro e W2 ⟨rfl,h2,b2⟩;refine Hid.out ?_);refine hid ?_;have HB2:=hid (b0.trans (b1.trans b2));have HI2:Hid (Lib.BuilderAt 97 5 w.heap.size w.heap.size (.pointer (some ⟨w.heap.size,0,none⟩)) (Lib.byteCells (joinW (wdL (bs.take (0+1))))) W2):=hid (by rw[List.nil_append,strCells_b] at h2;rw[HZ1.out];exact h2);clear cW h1 h2 b0 b1 b2 c0' c01 c0;go_upto_region 22 with fail
   have hsub:bs.length - 1=m:=by have:=HMM.out;omega
   rw[hsub];clear hsub hc1 hc2 dk hnlt hlt hpos;go_loopw [65] (fun iv wr=>∃ k:Nat,k≤m∧iv=.int .i64 (k:Int)∧Hid (Lib.BuilderAt 97 5 w.heap.size w.heap.size (.pointer (some ⟨w.heap.size,0,none⟩)) (Lib.byteCells (joinW (wdL (bs.take (k+1))))) wr)∧Hid (Below w.heap.size w wr)) (fun iv _=>m - (intOf iv).toNat)
   case atStart=>exact⟨0,Nat.zero_le _,rfl,HI2,HB2⟩
   case round=>
    clear HI2 HB2;obtain⟨k,hk,rfl,HI,HB⟩:=hrel;have hwk:wrap64 ((k:Int)+1)=(k:Int)+1:=by have:=HM9.out;unfold wrap64;omega
    have HJ:Hid ((joinW (wdL (bs.take (k+1)))).length≤20000000):=hid (by
     have h1:=joinW_len (wdL (bs.take (k+1))) 100000 (fun x hx=>by
      obtain⟨y,hy,rfl⟩:=List.mem_map.1 hx;have h2:=HM.out y (List.mem_of_mem_take hy);have h3:y.data.toList.length=y.size:=Array.length_toList;omega)
     have h2:(wdL (bs.take (k+1))).length≤100:=by rw[wdL_len,List.length_take];have:=HMM.out;have:=HM9.out;omega
     have h3:(wdL (bs.take (k+1))).length*(100000+1)≤100*(100000+1):=Nat.mul_le_mul_right _ h2;omega)
    by_cases hlt:k < m
    ·have hkb:k+1 < bs.length:=by have:=HMM.out;omega
     obtain⟨b1,o1,e1,-,ck⟩:=HA.out.at_ hkb;injection e1 with e1
     injection e1 with e1 e2
     subst e1 e2;have hjs:=joinT_snoc (bs:=bs) (k:=k+1) (by omega) hkb;have hym:=HM.out _ (List.getElem_mem hkb);obtain⟨y,hy⟩:∃ y,y=bs[k+1]:=⟨_,rfl⟩
     rw[← hy] at ck hjs hym;obtain⟨J,hJ⟩:∃ J,J=joinW (wdL (bs.take (k+1))):=⟨_,rfl⟩
     rw[← hJ] at hjs HI HJ;have HJS:=hid hjs;have HYM:=hid hym;have HLT:=hid hlt;have HCK:Hid (w.cell? ⟨b,o+1+k,none⟩=some (.string y)):=hid (by rw[show o+1+k=o+(k+1) by omega];exact ck);have cw:=(HB.out.cell (World.block_lt_of_cell? _ _ HCK.out)).trans HCK.out;have hJl:(Lib.byteCells J).length=J.length:=Lib.byteCells_length _;have hC1:=writeString_any w.heap.size w.heap.size (Lib.byteCells J) ⟨#[32]⟩ wr (.inr HI.out) (by have:=HJ.out;have h3:(⟨#[32]⟩:ByteArray).size=1:=rfl;omega) HB.out.size;rw[strCells_b,← Lib.byteCells_append] at hC1;have HC1:=hid hC1;clear hy hJ hjs hym ck hJl hC1 hlt hkb hk;have hlt:=HLT.out;go_wp2_with (go_at_call 73;refine HC1.out.mono ?_;rintro e W3 ⟨rfl,h3,b3⟩;refine Hid.out ?_);refine hid ?_;have HB3:=hid (HB.out.trans b3);have hJl:(Lib.byteCells (J ++ (⟨#[32]⟩:ByteArray).data.toList)).length≤20000001:=by
      have h4:(J ++ (⟨#[32]⟩:ByteArray).data.toList).length=J.length+1:=List.length_append;rw[Lib.byteCells_length,h4];have:=HJ.out;omega
     have hC2:=writeString_any w.heap.size w.heap.size (Lib.byteCells (J ++ (⟨#[32]⟩:ByteArray).data.toList)) y W3 (.inr h3) (by have:=HYM.out;omega) HB3.out.size;rw[strCells_b,← Lib.byteCells_append] at hC2;have HC2:=hid hC2;clear hJl hC2 h3 b3 HC1 HI;go_wp2_with (go_at_call 73;refine HC2.out.mono ?_;rintro e W4 ⟨rfl,h4,b4⟩;refine Hid.out ?_);refine hid ?_;have HB4:=hid (HB3.out.trans b4);have HI4:Hid (Lib.BuilderAt 97 5 w.heap.size w.heap.size (.pointer (some ⟨w.heap.size,0,none⟩)) (Lib.byteCells (joinW (wdL (bs.take (k+1+1))))) W4):=hid (by
      rw[HJS.out,← List.append_assoc];exact h4)
     clear h4 b4 HC2;go_wp2;go_roundw
     case rel=>exact⟨k+1,HLT.out,(by first | rfl | (rw[hwk];rfl)),HI4,HB4⟩
     case measure=>(try rw[hwk]);exact meas_step5b HLT.out
    ·have hek:k=m:=by omega
     have dk:decide ((k:Int) < (m:Int))=false:=decide_eq_false (by omega);have HRJ:Hid (joinW (wdL (bs.take (k+1)))=r):=hid (by rw[HR.out,hek,List.take_of_length_le (by have:=HMM.out;omega)]);rw[HRJ.out] at HI;have HST:=hid (Tryz.Builder_String_any w.heap.size w.heap.size r wr (.inr HI.out) HB.out.size);have hnlt:¬ k < m:=hlt;clear hek hlt HI;go_wp2_with (go_at_call 80;refine HST.out.mono ?_;rintro e W3 ⟨rfl,b3⟩;refine Hid.out ?_);refine hid ?_;have HB3:=hid (HB.out.trans b3);clear b3;go_wp2;go_ret;exact⟨rfl,HB3.out⟩
end Go.Proofs.YtcfelnhmifkelaaGreatDoor
namespace Go.Proofs.YtcfelnhmifkelaaGreatDoor
open Go.RowKit
set_option maxRecDepth 100000
set_option linter.unusedVariables false
set_option linter.unusedSimpArgs false
theorem filter_no {l:List UInt8}(h:(10:UInt8) ∉ l):l.filter (fun c=>c != 10)=l:=by
 rw[List.filter_eq_self];intro a ha;rw[bne_iff_ne];rintro rfl;exact h ha
theorem replK_nl:∀ (k:Nat)(l:List UInt8),l.count 10=k→Lib.replaceK [10] [] k l=l.filter (fun c=>c != 10)
 | 0,l,h=>(filter_no (List.count_eq_zero.1 h)).symm
 | k+1,l,h=>by
  obtain⟨a,r,rfl,h2,h3⟩:=cut_nlS l k h;rw[Lib.replaceK_hit _ _ _ _ _ (index_nlS h2),List.take_left,List.append_nil];have hd:(a ++ 10 :: r).drop (a.length+([10]:List UInt8).length)=r:=by
   rw[← List.drop_drop,List.drop_left];rfl
  rw[hd,replK_nl k r h3,List.filter_append,filter_no h2];rfl
theorem replAll_nl (l:List UInt8):Lib.replaceAll l [10] []=l.filter (fun c=>c != 10):=by
 unfold Lib.replaceAll Lib.replace;rw[if_neg (by decide)];refine replK_nl _ _ ?_;unfold Lib.replaceNum;rw[if_pos (.inl (by decide))];exact (Lib.count_one 10 l).symm
theorem repl_any (l:List UInt8)(w:World)(hg:GCell w)(hs:l.length≤2147483648) :
  Calls Tryz.prog 34 #[.string ⟨l.toArray⟩,.string ⟨#[10]⟩,.string ⟨#[]⟩] w fun e w'=>e=.returned (.string ⟨(l.filter (fun c=>c != 10)).toArray⟩)∧Below w.heap.size w w':=by
 obtain⟨m,hm⟩:=hg;have hsz:(⟨l.toArray⟩:ByteArray).size=l.length:=List.size_toArray;refine (Tryz.strings_ReplaceAll ⟨l.toArray⟩ ⟨#[10]⟩ ⟨#[]⟩ m w (by omega) hm (by decide) (by rw[show (⟨#[]⟩:ByteArray).size=0 from rfl,Nat.mul_zero];omega)).mono ?_;rintro e w' ⟨rfl,hb⟩;exact⟨by rw[← replAll_nl l],hb⟩
end Go.Proofs.YtcfelnhmifkelaaGreatDoor
