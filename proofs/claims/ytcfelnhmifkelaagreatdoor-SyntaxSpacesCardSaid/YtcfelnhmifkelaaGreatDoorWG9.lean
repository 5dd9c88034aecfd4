/-
  texts ParseR8 Plain8 Dig9 DigR9 Num9 After9: parts of the proof; conditions stand with each theorem.
-/
import Derived.Test.YtcfelnhmifkelaaGreatDoorWG8
import Derived.Test.YtcfelnhmifkelaaGreatDoorWG0
import Derived.Test.YtcfelnhmifkelaaGreatDoorWShelf
namespace Go.Proofs.YtcfelnhmifkelaaGreatDoor
set_option maxRecDepth 100000
open Go.RowKit
set_option linter.unusedVariables false
set_option linter.unusedSimpArgs false


end Go.Proofs.YtcfelnhmifkelaaGreatDoor
namespace Go.Proofs.YtcfelnhmifkelaaGreatDoor
open Lib(hid)
open Go.RowKit
set_option maxRecDepth 100000
set_option linter.unusedVariables false
set_option linter.unusedSimpArgs false

def isDig9 (c:UInt8):Bool:=decide (48≤(c.toNat:Int)) && decide ((c.toNat:Int)≤57)
def digOf9 (c:UInt8):Int:=(c.toNat:Int) - 48
theorem bytes_conv9 (s:ByteArray)(w:World):∃ cap W,(convert 9 95 (.string s)).run Tryz.prog w=.ok (.slice (some ⟨w.heap.size,0,none⟩) s.data.toList.length cap) W∧Below w.heap.size w W∧w.heap.size < W.heap.size∧
  ∀ i (h:i < s.data.toList.length),W.cell? ⟨w.heap.size,i,none⟩=some (.int .u8 s.data.toList[i].toNat):=by
 have hr:=run_bytes_of_string (P:=Tryz.prog) w 9 95 5 s Tryz.underlying9 Tryz.underlying95 Tryz.underlying5;refine⟨_,_,hr,?_,?_,?_⟩
 ·exact ((Below.refl w.heap.size w).drew).alloc (Nat.le_refl _) _
 ·simp
 ·intro i h;have hl:i < s.size:=by simpa using h
  have hc:=cell_of_row (w.drew.alloc (.cells (bytesRow s (grownCap w s.size 0 5)) 5 ((bytesRow s (grownCap w s.size 0 5)).size,(bytesRow s (grownCap w s.size 0 5)).size+1))) w.heap.size i _ _ _ (heap_alloc_new w.drew _);rw[hc];unfold bytesRow;rw[Array.getElem?_append_left (by simpa using hl)];have hl2:i < s.data.size:=hl;rw[Array.getElem?_map,Array.getElem?_eq_getElem hl2]
  simp
def digAsc9 (last:Int):List UInt8→List Int
 | []=>[]
 | c :: l=>if isDig9 c && decide (last < digOf9 c) then digOf9 c :: digAsc9 (digOf9 c) l else []
def lastZ9 (zs:List Int):Int:=zs.getLast?.getD (-1)
theorem lastZ_snoc9 (zs:List Int)(z:Int):lastZ9 (zs ++ [z])=z:=by simp[lastZ9]
theorem lastZ_at9 {zs:List Int}(h:zs≠[]):lastZ9 zs=zs[zs.length - 1]'(by have:=List.length_pos_iff.2 h;omega):=by
 unfold lastZ9;rw[List.getLast?_eq_some_getLast h,List.getLast_eq_getElem];rfl
theorem digAsc_yes9 {last:Int}{l:List UInt8}{j:Nat}(h:j < l.length)(hd:isDig9 l[j]=true)(hl:last < digOf9 l[j]):digAsc9 last (l.drop j)=digOf9 l[j] :: digAsc9 (digOf9 l[j]) (l.drop (j+1)):=by
 rw[List.drop_eq_getElem_cons h];simp[digAsc9,hd,hl]
theorem digAsc_no9 {last:Int}{l:List UInt8}{j:Nat}(h:j < l.length)(hd:isDig9 l[j]=false∨¬ last < digOf9 l[j]):digAsc9 last (l.drop j)=[]:=by
 rw[List.drop_eq_getElem_cons h];rcases hd with hd | hd <;> simp[digAsc9,hd]
theorem get_byte9 (s:ByteArray)(j:Nat)(h:j < s.size)(h':j < s.data.toList.length):s.data.toList[j]=s[j]:=by
 rfl
def digG (l:List UInt8):List Int × Bool:=if (digAsc9 (-1) l).length=l.length then (digAsc9 (-1) l,true) else ([],false)
theorem digG_no {l:List UInt8}{zs:List Int}(h:digAsc9 (-1) l=zs) (hl:zs.length < l.length):digG l=([],false):=by
 unfold digG;rw[if_neg (by rw[h];omega)]
set_option maxHeartbeats 1000000 in
theorem digits_any9 (s:ByteArray)(w:World)(hs:s.data.toList.length≤2147483648) :
  Calls Tryz.prog 157 #[.string s] w (RetIntsB (digG s.data.toList).1 (digG s.data.toList).2 w):=by
 obtain⟨cap,W,hcv,hbW,hsz,hcells⟩:=bytes_conv9 s w;generalize s.data.toList=l at *;have HC:=hid hcells;clear hcells;go_enter Tryz.func157,Tryz.ntmps157;go_wp2;go_loopw [4,11] (fun v i wr=>∃ zs:List Int,zs.length≤l.length∧i=.int .i64 zs.length∧OwnI 3 wr W.heap.size v zs∧Below W.heap.size W wr∧Hid (digAsc9 (-1) l=zs ++ digAsc9 (lastZ9 zs) (l.drop zs.length))) (fun _ i _=>l.length - (intOf i).toNat)
 case atStart=>exact⟨[],Nat.zero_le _,rfl,OwnI.nil _ _ _,Below.refl _ _,hid rfl⟩
 case round=>
  obtain⟨zs,hk,rfl,hown,hb,HT⟩:=hrel;obtain⟨A,c,hv,hi,hnew⟩:=hown.ints;subst hv;have hbw:=hbW.trans (hb.mono hbW.size);by_cases hlt:zs.length < l.length
  ·have hc:=(hb.cell (p:=⟨w.heap.size,zs.length,none⟩) hsz).trans (HC.out zs.length hlt);have hc0:(l[zs.length].toNat:Int)≤255:=by have:=l[zs.length].toNat_lt;omega
   have hdg:isDig9 l[zs.length]=(decide ((48:Int)≤l[zs.length].toNat) && decide ((l[zs.length].toNat:Int)≤57)):=rfl;have hdo:digOf9 l[zs.length]=(l[zs.length].toNat:Int) - 48:=rfl;have HD:=hid (And.intro hdg hdo);clear hdg hdo;by_cases h1:(l[zs.length].toNat:Int) < 48
   ·have hno:=hid (digG_no (zs:=zs) (by rw[HT.out,digAsc_no9 hlt (.inl (by rw[HD.out.1,decide_eq_false (by omega)];rfl)),List.append_nil]) hlt);go_wp2;go_ret2;rw[hno.out];exact⟨none,0,rfl,Ints.nil,NewA.none_ _,hbw⟩
   ·by_cases h2:(57:Int) < l[zs.length].toNat
    ·have hno:=hid (digG_no (zs:=zs) (by rw[HT.out,digAsc_no9 hlt (.inl (by rw[HD.out.1,decide_eq_false (p:=(l[zs.length].toNat:Int)≤57) (by omega),Bool.and_false])),List.append_nil]) hlt);go_wp2;go_ret2;rw[hno.out];exact⟨none,0,rfl,Ints.nil,NewA.none_ _,hbw⟩
    ·have hdig:isDig9 l[zs.length]=true:=by rw[HD.out.1,decide_eq_true (by omega),decide_eq_true (by omega)];rfl
     by_cases h3:zs.length=0
     ·obtain rfl:zs=[]:=List.eq_nil_of_length_eq_zero h3;have g0:0 < l.length:=hlt;have gc:wr.cell? ⟨w.heap.size,0,none⟩=some (.int .u8 l[0].toNat):=hc;have g1:¬ (l[0].toNat:Int) < 48:=h1;have g2:¬ (57:Int) < l[0].toNat:=h2;have g3:(l[0].toNat:Int)≤255:=hc0;have hnx:digAsc9 (-1) l=[(l[0].toNat:Int) - 48] ++ digAsc9 (lastZ9 [(l[0].toNat:Int) - 48]) (l.drop 1):=by
       conv=>lhs;rw[HT.out]
       rw[digAsc_yes9 hlt hdig (by rw[HD.out.2];show (-1:Int) < _;omega),HD.out.2];rfl
      have HN:=hid hnx;clear hnx hdig h3 hc h1 h2 hc0 HD;go_wp2_with (at_builtin;refine wpList_pushI rfl _ _ _ rfl W.heap.size 3 Tryz.underlying142 Tryz.infoInt _ [] rfl hown _ rfl (by simp) hb.size ?_);intro v' w1 hown2 hb2;have hb3:=hb.trans hb2;go_wp2;go_roundw
      case rel=>exact⟨[(l[0].toNat:Int) - 48],g0,by go_num,hown2,hb3,HN⟩
      case measure=>simp[intOf];omega
     ·have hpos:0 < zs.length:=by omega
      obtain⟨b1,o1,hA,-,hcl⟩:=hi.at_ (k:=zs.length - 1) (by omega);subst hA;have hlz:lastZ9 zs=zs[zs.length - 1]:=lastZ_at9 (by rintro rfl;simp at h3);have HL:=hid hlz;have d2:((zs.length:Int) == 0)=false:=by simp;intro h;subst h;simp at h3
      have hidx:((zs.length:Int) - 1).toNat=zs.length - 1:=by omega
      clear hlz;by_cases h4:(l[zs.length].toNat:Int) - 48≤zs[zs.length - 1]
      ·have hno:=hid (digG_no (zs:=zs) (by rw[HT.out,digAsc_no9 hlt (.inr (by rw[HD.out.2,HL.out];omega)),List.append_nil]) hlt);clear hdig h3;go_wp2;go_ret2;rw[hno.out];exact⟨none,0,rfl,Ints.nil,NewA.none_ _,hbw⟩
      ·have hnx:digAsc9 (-1) l=(zs ++ [(l[zs.length].toNat:Int) - 48]) ++ digAsc9 (lastZ9 (zs ++ [(l[zs.length].toNat:Int) - 48])) (l.drop (zs.length+1)):=by
        rw[lastZ_snoc9]
        conv=>lhs;rw[HT.out]
        rw[digAsc_yes9 hlt hdig (by rw[HD.out.2,HL.out];omega),HD.out.2,List.append_assoc];rfl
       have HN:=hid hnx;have hlen4:zs.length < 4294967296:=by omega
       clear hnx hdig h3;go_wp2_with (at_builtin;refine wpList_pushI rfl _ _ _ rfl W.heap.size 3 Tryz.underlying142 Tryz.infoInt _ _ rfl hown _ rfl hlen4 hb.size ?_);intro v' w1 hown2 hb2;have hb3:=hb.trans hb2;go_wp2;go_roundw
       case rel=>exact⟨zs ++ [(l[zs.length].toNat:Int) - 48],by rw[List.length_append];simp;omega,by rw[List.length_append];go_num,hown2,hb3,by rw[List.length_append];exact HN⟩
       case measure=>simp[intOf];omega
  ·have hle:zs.length=l.length:=by omega
   have hfin:digG l=(zs,true):=by
    have h:=HT.out;rw[hle,List.drop_length] at h;have h2:digAsc9 (-1) l=zs:=by rw[h];simp[digAsc9]
    unfold digG;rw[h2,if_pos hle]
   have HF:=hid hfin;clear hfin hle;go_wp2;go_ret2;rw[HF.out];exact⟨A,c,rfl,hi,hnew.mono hbW.size,hbw⟩
end Go.Proofs.YtcfelnhmifkelaaGreatDoor
namespace Go.Proofs.YtcfelnhmifkelaaGreatDoor
set_option linter.unusedSimpArgs false
open Go.RowKit
set_option maxRecDepth 100000
set_option linter.unusedVariables false

end Go.Proofs.YtcfelnhmifkelaaGreatDoor
namespace Go.Proofs.YtcfelnhmifkelaaGreatDoor
open Lib(hid)
open Go.RowKit
set_option maxRecDepth 100000
set_option linter.unusedVariables false
set_option linter.unusedSimpArgs false

def numG (l:List UInt8):Bool:=l.all isDig9 && decide (1≤l.length) && decide (l.length≤3) && decide (l.getD 0 0≠48)
theorem all_take_snoc {l:List UInt8}{k:Nat}(hk:k < l.length)(h:(l.take k).all isDig9=true) (hb:isDig9 l[k]=true):(l.take (k+1)).all isDig9=true:=by
 rw[List.take_succ_eq_append_getElem hk,List.all_append,h];simp[hb]
theorem numG_bad {l:List UInt8}{k:Nat}(hk:k < l.length)(hb:isDig9 l[k]=false):numG l=false:=by
 unfold numG;have:l.all isDig9=false:=by
  cases h:l.all isDig9
  ·rfl
  ·rw[List.all_eq_true] at h;rw[h _ (List.getElem_mem hk)] at hb;cases hb
 rw[this];rfl
set_option maxHeartbeats 1000000 in
theorem number_any9 (s:ByteArray)(w:World)(hs:s.data.toList.length≤2147483648) :
  Calls Tryz.prog 158 #[.string s] w fun e w'=>e=.returned (.bool (numG s.data.toList))∧Below w.heap.size w w':=by
 obtain⟨cap,W,hcv,hbW,hsz,hcells⟩:=bytes_conv9 s w;obtain⟨l,hl⟩:∃ l,l=s.data.toList:=⟨_,rfl⟩
 have hgb:∀ j (h:j < s.size) (h':j < l.length),l[j]=s[j]:=by subst hl;exact get_byte9 s
 have hlen:l.length=s.size:=by rw[hl];rfl
 rw[← hl] at hcv hcells hs ⊢;have HG:=hid (And.intro hlen hgb);have HC:=hid hcells;clear hcells hl hgb hlen;go_enter Tryz.func158,Tryz.ntmps158;go_wp2;go_loopw [8] (fun i wr=>∃ k:Nat,k≤l.length∧i=.int .i64 k∧wr=W∧Hid ((l.take k).all isDig9=true)) (fun i _=>l.length - (intOf i).toNat)
 case atStart=>exact⟨0,Nat.zero_le _,rfl,rfl,hid rfl⟩
 case round=>
  obtain⟨k,hk,rfl,hw,HT⟩:=hrel;have hw2:=hw.symm;clear hw;subst hw2;by_cases hlt:k < l.length
  ·have hc:=HC.out k hlt;have hc0:(l[k].toNat:Int)≤255:=by have:=l[k].toNat_lt;omega
   cases hd:isDig9 l[k]
   ·have hbad:=hid (numG_bad hlt hd);by_cases h1:(l[k].toNat:Int) < 48
    ·clear hd;go_wp2;go_ret;exact⟨ret_bool hbad.out.symm,hbW⟩
    ·have h2:(57:Int) < l[k].toNat:=by
      unfold isDig9 at hd;rw[decide_eq_true (by omega)] at hd;simpa using hd
     clear hd;go_wp2;go_ret;exact⟨ret_bool hbad.out.symm,hbW⟩
   ·have hall:=hid (all_take_snoc hlt HT.out hd);obtain⟨h1,h2⟩:48≤(l[k].toNat:Int)∧(l[k].toNat:Int)≤57:=by simpa [isDig9] using hd
    clear hd;go_wp2;go_roundw
    case rel=>exact⟨k+1,by omega,by go_num,(by first | rfl | trivial),hall⟩
    case measure=>simp[intOf];omega
  ·obtain rfl:k=l.length:=by omega
   have hall:l.all isDig9=true:=by have:=HT.out;rwa [List.take_length] at this
   have HA:=hid hall;clear hall HT;by_cases h1:1≤s.size
   ·by_cases h2:s.size≤3
    ·have h0:0 < l.length:=by rw[HG.out.1];exact h1
     have e0:=HG.out.2 0 (by omega) h0;have eg:l.getD 0 0=s[0]:=by rw[← e0];simp[List.getD,h0]
     by_cases h3:s[0]=48
     ·have d3:((s[0].toNat:Int) != 48)=false:=by rw[h3];rfl
      have HN:Hid (numG l=false):=hid (by unfold numG;rw[eg,h3];simp);clear h3 e0 eg;go_wp2;go_ret;exact⟨ret_bool (by rw[HN.out]),hbW⟩
     ·have d3:((s[0].toNat:Int) != 48)=true:=by
       simp only[bne_iff_ne,ne_eq];intro h;exact h3 (UInt8.toNat_inj.1 (by have:(48:UInt8).toNat=48:=rfl;omega))
      have HN:Hid (numG l=true):=hid (by
       unfold numG;rw[eg,HA.out,decide_eq_true (show 1≤l.length by omega),decide_eq_true (show l.length≤3 by rw[HG.out.1];exact h2),decide_eq_true h3];rfl)
      clear h3 e0 eg;go_wp2;go_ret;exact⟨ret_bool (by rw[HN.out]),hbW⟩
    ·have HN:Hid (numG l=false):=hid (by unfold numG;rw[decide_eq_false (show ¬ l.length≤3 by rw[HG.out.1];exact h2)];simp);go_wp2;go_ret;exact⟨ret_bool (by rw[HN.out]),hbW⟩
   ·have HN:Hid (numG l=false):=hid (by unfold numG;rw[decide_eq_false (show ¬ 1≤l.length by rw[HG.out.1];exact h1)];simp);go_wp2;go_ret;exact⟨ret_bool (by rw[HN.out]),hbW⟩
end Go.Proofs.YtcfelnhmifkelaaGreatDoor
namespace Go.Proofs.YtcfelnhmifkelaaGreatDoor
open Go.RowKit
set_option maxRecDepth 100000
set_option linter.unusedVariables false
set_option linter.unusedSimpArgs false

end Go.Proofs.YtcfelnhmifkelaaGreatDoor
