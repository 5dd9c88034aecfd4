/-
  texts Dig9 DigR9 Num9 After9 NumR9 Cnt9: parts of the proof; conditions stand with each theorem.
-/
import Derived.Test.YtcfelnhmifkelaaGreatDoorUG10
import Derived.Test.YtcfelnhmifkelaaGreatDoorUG0
import Derived.Test.YtcfelnhmifkelaaGreatDoorUShelf
namespace Go.Proofs.YtcfelnhmifkelaaGreatDoor
open Lib(hid)
open Go.RowKit
set_option maxRecDepth 100000
set_option linter.unusedVariables false
set_option linter.unusedSimpArgs false

def isDig9 (c:UInt8):Bool:=decide (48≤(c.toNat:Int)) && decide ((c.toNat:Int)≤57)
def digOf9 (c:UInt8):Int:=(c.toNat:Int) - 48
theorem bytes_conv9 (s:ByteArray)(w:World):∃ cap W,(convert 9 95 (.string s)).run Tryz.prog w=.ok (.slice (some ⟨w.heap.size,0,none⟩) s.data.toList.length cap) W∧Below w.heap.size w W∧w.heap.size < W.heap.size∧
  ∀ i (h:i < s.data.toList.length),W.cell? ⟨w.heap.size,i,none⟩=some (.int .u8 s.data.toList[i].toNat):=by
 have hr:=run_bytes_of_string (P:=Tryz.prog) w 9 95 5 s Tryz.underlying9 Tryz.underlying95 Tryz.underlying5;refine⟨_,_,hr,?_,?_,?_⟩
 ·exact ((Below.refl w.heap.size w).drew).alloc (Nat.le_refl _) _
 ·simp
 ·intro i h;have hl:i < s.size:=by simpa using h
  have hc:=cell_of_row (w.drew.alloc (.cells (bytesRow s (grownCap w s.size 0 5)) 5 ((bytesRow s (grownCap w s.size 0 5)).size,(bytesRow s (grownCap w s.size 0 5)).size+1))) w.heap.size i _ _ _ (heap_alloc_new w.drew _);rw[hc];unfold bytesRow;rw[Array.getElem?_append_left (by simpa using hl)];have hl2:i < s.data.size:=hl;rw[Array.getElem?_map,Array.getElem?_eq_getElem hl2]
  simp
def RetIntsN9 (zs:List Int)(n:Int)(w:World)(e:Ending)(w':World):Prop:=∃ A c,e=.returned (.tuple #[.slice A zs.length c,.int .i64 n])∧Ints w' A zs∧NewA w.heap.size A∧Below w.heap.size w w'
theorem ret_pair9 {v:Value}{a b:Int}(h:a=b):Ending.returned (.tuple #[v,.int .i64 a])=.returned (.tuple #[v,.int .i64 b]):=by rw[h]
def digAsc9 (last:Int):List UInt8→List Int
 | []=>[]
 | c :: l=>if isDig9 c && decide (last < digOf9 c) then digOf9 c :: digAsc9 (digOf9 c) l else []
def lastZ9 (zs:List Int):Int:=zs.getLast?.getD (-1)
theorem lastZ_snoc9 (zs:List Int)(z:Int):lastZ9 (zs ++ [z])=z:=by simp[lastZ9]
theorem lastZ_at9 {zs:List Int}(h:zs≠[]):lastZ9 zs=zs[zs.length - 1]'(by have:=List.length_pos_iff.2 h;omega):=by
 unfold lastZ9;rw[List.getLast?_eq_some_getLast h,List.getLast_eq_getElem];rfl
theorem digAsc_yes9 {last:Int}{l:List UInt8}{j:Nat}(h:j < l.length)(hd:isDig9 l[j]=true)(hl:last < digOf9 l[j]):digAsc9 last (l.drop j)=digOf9 l[j] :: digAsc9 (digOf9 l[j]) (l.drop (j+1)):=by
 rw[List.drop_eq_getElem_cons h];simp[digAsc9,hd,hl]
theorem digAsc_no9 {last:Int}{l:List UInt8}{j:Nat}(h:j < l.length)(hd:isDig9 l[j]=false∨¬ last < digOf9 l[j]):digAsc9 last (l.drop j)=[]:=by
 rw[List.drop_eq_getElem_cons h];rcases hd with hd | hd <;> simp[digAsc9,hd]
theorem get_byte9 (s:ByteArray)(j:Nat)(h:j < s.size)(h':j < s.data.toList.length):s.data.toList[j]=s[j]:=by
 rfl
def digG (l:List UInt8):List Int × Bool:=if (digAsc9 (-1) l).length=l.length then (digAsc9 (-1) l,true) else ([],false)
theorem digG_no {l:List UInt8}{zs:List Int}(h:digAsc9 (-1) l=zs) (hl:zs.length < l.length):digG l=([],false):=by
 unfold digG;rw[if_neg (by rw[h];omega)]
set_option maxHeartbeats 1000000 in
theorem digits_any9 (s:ByteArray)(w:World)(hs:s.data.toList.length≤2147483648) :
  Calls Tryz.prog 157 #[.string s] w (RetIntsB (digG s.data.toList).1 (digG s.data.toList).2 w):=by
 obtain⟨cap,W,hcv,hbW,hsz,hcells⟩:=bytes_conv9 s w;generalize s.data.toList=l at *;have HC:=hid hcells;clear hcells;go_enter Tryz.func157,Tryz.ntmps157;go_wp2;go_loopw [4,11] (fun v i wr=>∃ zs:List Int,zs.length≤l.length∧i=.int .i64 zs.length∧OwnI 3 wr W.heap.size v zs∧Below W.heap.size W wr∧Hid (digAsc9 (-1) l=zs ++ digAsc9 (lastZ9 zs) (l.drop zs.length))) (fun _ i _=>l.length - (intOf i).toNat)
 case atStart=>exact⟨[],Nat.zero_le _,rfl,OwnI.nil _ _ _,Below.refl _ _,hid rfl⟩
 case round=>
  obtain⟨zs,hk,rfl,hown,hb,HT⟩:=hrel;obtain⟨A,c,hv,hi,hnew⟩:=hown.ints;subst hv;have hbw:=hbW.trans (hb.mono hbW.size);by_cases hlt:zs.length < l.length
  ·have hc:=(hb.cell (p:=⟨w.heap.size,zs.length,none⟩) hsz).trans (HC.out zs.length hlt);have hc0:(l[zs.length].toNat:Int)≤255:=by have:=l[zs.length].toNat_lt;omega
   have hdg:isDig9 l[zs.length]=(decide ((48:Int)≤l[zs.length].toNat) && decide ((l[zs.length].toNat:Int)≤57)):=rfl;have hdo:digOf9 l[zs.length]=(l[zs.length].toNat:Int) - 48:=rfl;have HD:=hid (And.intro hdg hdo);clear hdg hdo;by_cases h1:(l[zs.length].toNat:Int) < 48
   ·have hno:=hid (digG_no (zs:=zs) (by rw[HT.out,digAsc_no9 hlt (.inl (by rw[HD.out.1,decide_eq_false (by omega)];rfl)),List.append_nil]) hlt);go_wp2;go_ret2;rw[hno.out];exact⟨none,0,rfl,Ints.nil,NewA.none_ _,hbw⟩
   ·by_cases h2:(57:Int) < l[zs.length].toNat
    ·have hno:=hid (digG_no (zs:=zs) (by rw[HT.out,digAsc_no9 hlt (.inl (by rw[HD.out.1,decide_eq_false (p:=(l[zs.length].toNat:Int)≤57) (by omega),Bool.and_false])),List.append_nil]) hlt);go_wp2;go_ret2;rw[hno.out];exact⟨none,0,rfl,Ints.nil,NewA.none_ _,hbw⟩
    ·have hdig:isDig9 l[zs.length]=true:=by rw[HD.out.1,decide_eq_true (by omega),decide_eq_true (by omega)];rfl
     by_cases h3:zs.length=0
     ·obtain rfl:zs=[]:=List.eq_nil_of_length_eq_zero h3;have g0:0 < l.length:=hlt;have gc:wr.cell? ⟨w.heap.size,0,none⟩=some (.int .u8 l[0].toNat):=hc;have g1:¬ (l[0].toNat:Int) < 48:=h1;have g2:¬ (57:Int) < l[0].toNat:=h2;have g3:(l[0].toNat:Int)≤255:=hc0;have hnx:digAsc9 (-1) l=[(l[0].toNat:Int) - 48] ++ digAsc9 (lastZ9 [(l[0].toNat:Int) - 48]) (l.drop 1):=by
       conv=>lhs;rw[HT.out]
       rw[digAsc_yes9 hlt hdig (by rw[HD.out.2];show (-1:Int) < _;omega),HD.out.2];rfl
      have HN:=hid hnx;clear hnx hdig h3 hc h1 h2 hc0 HD;go_wp2_with (at_builtin;refine wpList_pushI rfl _ _ _ rfl W.heap.size 3 Tryz.underlying142 Tryz.infoInt _ [] rfl hown _ rfl (by simp) hb.size ?_);intro v' w1 hown2 hb2;have hb3:=hb.trans hb2;go_wp2;go_roundw
      case rel=>exact⟨[(l[0].toNat:Int) - 48],g0,by go_num,hown2,hb3,HN⟩
      case measure=>simp[intOf];omega
     ·have hpos:0 < zs.length:=by omega
      obtain⟨b1,o1,hA,-,hcl⟩:=hi.at_ (k:=zs.length - 1) (by omega);subst hA;have hlz:lastZ9 zs=zs[zs.length - 1]:=lastZ_at9 (by rintro rfl;simp at h3);have HL:=hid hlz;have d2:((zs.length:Int) == 0)=false:=by simp;intro h;subst h;simp at h3
      have hidx:((zs.length:Int) - 1).toNat=zs.length - 1:=by omega
      clear hlz;by_cases h4:(l[zs.length].toNat:Int) - 48≤zs[zs.length - 1]
      ·have hno:=hid (digG_no (zs:=zs) (by rw[HT.out,digAsc_no9 hlt (.inr (by rw[HD.out.2,HL.out];omega)),List.append_nil]) hlt);clear hdig h3;go_wp2;go_ret2;rw[hno.out];exact⟨none,0,rfl,Ints.nil,NewA.none_ _,hbw⟩
      ·have hnx:digAsc9 (-1) l=(zs ++ [(l[zs.length].toNat:Int) - 48]) ++ digAsc9 (lastZ9 (zs ++ [(l[zs.length].toNat:Int) - 48])) (l.drop (zs.length+1)):=by
        rw[lastZ_snoc9]
        conv=>lhs;rw[HT.out]
        rw[digAsc_yes9 hlt hdig (by rw[HD.out.2,HL.out];omega),HD.out.2,List.append_assoc];rfl
       have HN:=hid hnx;have hlen4:zs.length < 4294967296:=by omega
       clear hnx hdig h3;go_wp2_with (at_builtin;refine wpList_pushI rfl _ _ _ rfl W.heap.size 3 Tryz.underlying142 Tryz.infoInt _ _ rfl hown _ rfl hlen4 hb.size ?_);intro v' w1 hown2 hb2;have hb3:=hb.trans hb2;go_wp2;go_roundw
       case rel=>exact⟨zs ++ [(l[zs.length].toNat:Int) - 48],by rw[List.length_append];simp;omega,by rw[List.length_append];go_num,hown2,hb3,by rw[List.length_append];exact HN⟩
       case measure=>simp[intOf];omega
  ·have hle:zs.length=l.length:=by omega
   have hfin:digG l=(zs,true):=by
    have h:=HT.out;rw[hle,List.drop_length] at h;have h2:digAsc9 (-1) l=zs:=by rw[h];simp[digAsc9]
    unfold digG;rw[h2,if_pos hle]
   have HF:=hid hfin;clear hfin hle;go_wp2;go_ret2;rw[HF.out];exact⟨A,c,rfl,hi,hnew.mono hbW.size,hbw⟩

set_option maxHeartbeats 1000000 in
theorem digitsR_any9 (s:ByteArray)(p:Nat)(w:World)(hp:p≤s.size)(hs:s.size≤2147483648) :
  Calls Tryz.prog 205 #[.string s,.int .i64 p] w (RetIntsN9 (digAsc9 (-1) (s.data.toList.drop p)) ((p:Int)+(digAsc9 (-1) (s.data.toList.drop p)).length) w):=by
 obtain⟨l,hl⟩:∃ l,l=s.data.toList:=⟨_,rfl⟩
 have hgb:∀ j (h:j < s.size) (h':j < l.length),l[j]=s[j]:=by subst hl;exact get_byte9 s
 have hlen:l.length=s.size:=by rw[hl];rfl
 rw[← hl];have HG:=hid (And.intro hlen hgb);clear hl hgb hlen;obtain⟨zr,hzr⟩:∃ zr,zr=digAsc9 (-1) (l.drop p):=⟨_,rfl⟩
 rw[← hzr];have HR:=hid hzr;clear hzr;go_enter Tryz.func205,Tryz.ntmps205;go_wp2;go_loopw [1,6] (fun i v wr=>∃ (j:Nat) (zs:List Int),p≤j∧j≤s.size∧i=.int .i64 j∧OwnI 3 wr w.heap.size v zs∧Below w.heap.size w wr∧zs.length+p≤j∧j≤zs.length+p∧Hid (zr=zs ++ digAsc9 (lastZ9 zs) (l.drop j))) (fun i _ _=>s.size - (intOf i).toNat)
 case atStart=>exact⟨p,[],Nat.le_refl _,hp,rfl,OwnI.nil _ _ _,Below.refl _ _,by simp,by simp,HR⟩
 case round=>
  obtain⟨j,zs,hpj,hjs,rfl,hown,hb,hz1,hz2,HT⟩:=hrel;obtain⟨A,c,hv,hi,hnew⟩:=hown.ints;subst hv;by_cases hlt:j < s.size
  ·have hlt':j < l.length:=by rw[HG.out.1];exact hlt
   have hc0:(s[j].toNat:Int)≤255:=by have:=s[j].toNat_lt;omega
   have hdg:isDig9 l[j]=(decide ((48:Int)≤s[j].toNat) && decide ((s[j].toNat:Int)≤57)):=by rw[HG.out.2 j hlt hlt'];rfl
   have hdo:digOf9 l[j]=(s[j].toNat:Int) - 48:=by rw[HG.out.2 j hlt hlt'];rfl
   have HD:=hid (And.intro hdg hdo);clear hdg hdo;by_cases h1:(s[j].toNat:Int) < 48
   ·have d0:decide ((48:Int)≤s[j].toNat)=false:=decide_eq_false (by omega);have hno:zr=zs:=by
     rw[HT.out,digAsc_no9 hlt' (.inl (by rw[HD.out.1,d0];rfl)),List.append_nil]
    obtain rfl:=hno;go_wp2;go_quiet (fail)
    go_wp2;go_ret2;exact⟨_,c,ret_pair9 (by omega),hi.drewN _,hnew,below_drewN hb _⟩
   ·have d0:decide ((48:Int)≤s[j].toNat)=true:=decide_eq_true (by omega);by_cases h2:(57:Int) < s[j].toNat
    ·have d1:decide ((s[j].toNat:Int)≤57)=false:=decide_eq_false (by omega);have hno:zr=zs:=by
      rw[HT.out,digAsc_no9 hlt' (.inl (by rw[HD.out.1,d0,d1];rfl)),List.append_nil]
     obtain rfl:=hno;go_wp2;go_quiet (fail)
     go_wp2;go_ret2;exact⟨_,c,ret_pair9 (by omega),hi.drewN _,hnew,below_drewN hb _⟩
    ·have d1:decide ((s[j].toNat:Int)≤57)=true:=decide_eq_true (by omega);have hdig:isDig9 l[j]=true:=by rw[HD.out.1,d0,d1];rfl
     by_cases h3:zs.length=0
     ·obtain rfl:zs=[]:=List.eq_nil_of_length_eq_zero h3;have hnx:zr=([] ++ [(s[j].toNat:Int) - 48]) ++ digAsc9 (lastZ9 ([] ++ [(s[j].toNat:Int) - 48])) (l.drop (j+1)):=by
       rw[lastZ_snoc9,HT.out,digAsc_yes9 hlt' hdig (by rw[HD.out.2];show (-1:Int) < _;omega),HD.out.2];rfl
      have HN:=hid hnx;have hlen0:(([]:List Int).length:Int)=0:=rfl;clear hnx hdig h3;go_wp2;go_quiet (fail)
      go_wp2_with (at_builtin;refine wpList_pushI rfl _ _ _ rfl w.heap.size 3 Tryz.underlying142 Tryz.infoInt _ _ rfl (hown.drewN nq) _ rfl (by omega) hb.size ?_);intro v' w1 hown2 hb2;have hb3:=(below_drewN hb nq).trans hb2;go_wp2;go_roundw
      case rel=>exact⟨j+1,[] ++ [(s[j].toNat:Int) - 48],by omega,by omega,by go_num,hown2,hb3,by rw[List.length_append];simp;omega,by rw[List.length_append];simp;omega,HN⟩
      case measure=>simp[intOf];omega
     ·have hpos:0 < zs.length:=by omega
      obtain⟨b1,o1,hA,-,hc⟩:=hi.at_ (k:=zs.length - 1) (by omega);subst hA;have hlz:lastZ9 zs=zs[zs.length - 1]:=lastZ_at9 (by rintro rfl;simp at h3);have HL:=hid hlz;have d2:((zs.length:Int) == 0)=false:=by simp;intro h;subst h;simp at h3
      have hidx:((zs.length:Int) - 1).toNat=zs.length - 1:=by omega
      clear hlz;by_cases h4:zs[zs.length - 1] < (s[j].toNat:Int) - 48
      ·have d3:decide (zs[zs.length - 1] < (s[j].toNat:Int) - 48)=true:=decide_eq_true h4;have hnx:zr=(zs ++ [(s[j].toNat:Int) - 48]) ++ digAsc9 (lastZ9 (zs ++ [(s[j].toNat:Int) - 48])) (l.drop (j+1)):=by
        rw[lastZ_snoc9,HT.out,digAsc_yes9 hlt' hdig (by rw[HD.out.2,HL.out];exact h4),HD.out.2,List.append_assoc];rfl
       have HN:=hid hnx;clear hnx hdig h3;go_wp2;go_quiet (fail)
       go_wp2_with (at_builtin;refine wpList_pushI rfl _ _ _ rfl w.heap.size 3 Tryz.underlying142 Tryz.infoInt _ _ rfl (hown.drewN nq) _ rfl (by omega) hb.size ?_);intro v' w1 hown2 hb2;have hb3:=(below_drewN hb nq).trans hb2;go_wp2;go_roundw
       case rel=>exact⟨j+1,zs ++ [(s[j].toNat:Int) - 48],by omega,by omega,by go_num,hown2,hb3,by rw[List.length_append];simp;omega,by rw[List.length_append];simp;omega,HN⟩
       case measure=>simp[intOf];omega
      ·have d3:decide (zs[zs.length - 1] < (s[j].toNat:Int) - 48)=false:=decide_eq_false h4;have hno:zr=zs:=by
        rw[HT.out,digAsc_no9 hlt' (.inr (by rw[HD.out.2,HL.out];exact h4)),List.append_nil]
       obtain rfl:=hno;clear hdig h3;go_wp2;go_quiet (fail)
       go_wp2;go_ret2;exact⟨_,c,ret_pair9 (by omega),hi.drewN _,hnew,below_drewN hb _⟩
  ·have hno:zr=zs:=by
    rw[HT.out,List.drop_of_length_le (by rw[HG.out.1];omega)];simp[digAsc9]
   obtain rfl:=hno;obtain rfl:j=s.size:=by omega
   have d0:decide ((s.size:Int) < (s.size:Int))=false:=by simp
   have d0':decide (s.size < s.size)=false:=by simp
   go_wp2;go_quiet (fail)
   go_wp2;go_ret2;exact⟨_,c,ret_pair9 (by omega),hi.drewN _,hnew,below_drewN hb _⟩

def numG (l:List UInt8):Bool:=l.all isDig9 && decide (1≤l.length) && decide (l.length≤3) && decide (l.getD 0 0≠48)
theorem all_take_snoc {l:List UInt8}{k:Nat}(hk:k < l.length)(h:(l.take k).all isDig9=true) (hb:isDig9 l[k]=true):(l.take (k+1)).all isDig9=true:=by
 rw[List.take_succ_eq_append_getElem hk,List.all_append,h];simp[hb]
theorem numG_bad {l:List UInt8}{k:Nat}(hk:k < l.length)(hb:isDig9 l[k]=false):numG l=false:=by
 unfold numG;have:l.all isDig9=false:=by
  cases h:l.all isDig9
  ·rfl
  ·rw[List.all_eq_true] at h;rw[h _ (List.getElem_mem hk)] at hb;cases hb
 rw[this];rfl
set_option maxHeartbeats 1000000 in
theorem number_any9 (s:ByteArray)(w:World)(hs:s.data.toList.length≤2147483648) :
  Calls Tryz.prog 158 #[.string s] w fun e w'=>e=.returned (.bool (numG s.data.toList))∧Below w.heap.size w w':=by
 obtain⟨cap,W,hcv,hbW,hsz,hcells⟩:=bytes_conv9 s w;obtain⟨l,hl⟩:∃ l,l=s.data.toList:=⟨_,rfl⟩
 have hgb:∀ j (h:j < s.size) (h':j < l.length),l[j]=s[j]:=by subst hl;exact get_byte9 s
 have hlen:l.length=s.size:=by rw[hl];rfl
 rw[← hl] at hcv hcells hs ⊢;have HG:=hid (And.intro hlen hgb);have HC:=hid hcells;clear hcells hl hgb hlen;go_enter Tryz.func158,Tryz.ntmps158;go_wp2;go_loopw [8] (fun i wr=>∃ k:Nat,k≤l.length∧i=.int .i64 k∧wr=W∧Hid ((l.take k).all isDig9=true)) (fun i _=>l.length - (intOf i).toNat)
 case atStart=>exact⟨0,Nat.zero_le _,rfl,rfl,hid rfl⟩
 case round=>
  obtain⟨k,hk,rfl,hw,HT⟩:=hrel;have hw2:=hw.symm;clear hw;subst hw2;by_cases hlt:k < l.length
  ·have hc:=HC.out k hlt;have hc0:(l[k].toNat:Int)≤255:=by have:=l[k].toNat_lt;omega
   cases hd:isDig9 l[k]
   ·have hbad:=hid (numG_bad hlt hd);by_cases h1:(l[k].toNat:Int) < 48
    ·clear hd;go_wp2;go_ret;exact⟨ret_bool hbad.out.symm,hbW⟩
    ·have h2:(57:Int) < l[k].toNat:=by
      unfold isDig9 at hd;rw[decide_eq_true (by omega)] at hd;simpa using hd
     clear hd;go_wp2;go_ret;exact⟨ret_bool hbad.out.symm,hbW⟩
   ·have hall:=hid (all_take_snoc hlt HT.out hd);obtain⟨h1,h2⟩:48≤(l[k].toNat:Int)∧(l[k].toNat:Int)≤57:=by simpa [isDig9] using hd
    clear hd;go_wp2;go_roundw
    case rel=>exact⟨k+1,by omega,by go_num,(by first | rfl | trivial),hall⟩
    case measure=>simp[intOf];omega
  ·obtain rfl:k=l.length:=by omega
   have hall:l.all isDig9=true:=by have:=HT.out;rwa [List.take_length] at this
   have HA:=hid hall;clear hall HT;by_cases h1:1≤s.size
   ·by_cases h2:s.size≤3
    ·have h0:0 < l.length:=by rw[HG.out.1];exact h1
     have e0:=HG.out.2 0 (by omega) h0;have eg:l.getD 0 0=s[0]:=by rw[← e0];simp[List.getD,h0]
     by_cases h3:s[0]=48
     ·have d3:((s[0].toNat:Int) != 48)=false:=by rw[h3];rfl
      have HN:Hid (numG l=false):=hid (by unfold numG;rw[eg,h3];simp);clear h3 e0 eg;go_wp2;go_ret;exact⟨ret_bool (by rw[HN.out]),hbW⟩
     ·have d3:((s[0].toNat:Int) != 48)=true:=by
       simp only[bne_iff_ne,ne_eq];intro h;exact h3 (UInt8.toNat_inj.1 (by have:(48:UInt8).toNat=48:=rfl;omega))
      have HN:Hid (numG l=true):=hid (by
       unfold numG;rw[eg,HA.out,decide_eq_true (show 1≤l.length by omega),decide_eq_true (show l.length≤3 by rw[HG.out.1];exact h2),decide_eq_true h3];rfl)
      clear h3 e0 eg;go_wp2;go_ret;exact⟨ret_bool (by rw[HN.out]),hbW⟩
    ·have HN:Hid (numG l=false):=hid (by unfold numG;rw[decide_eq_false (show ¬ l.length≤3 by rw[HG.out.1];exact h2)];simp);go_wp2;go_ret;exact⟨ret_bool (by rw[HN.out]),hbW⟩
   ·have HN:Hid (numG l=false):=hid (by unfold numG;rw[decide_eq_false (show ¬ 1≤l.length by rw[HG.out.1];exact h1)];simp);go_wp2;go_ret;exact⟨ret_bool (by rw[HN.out]),hbW⟩

def fitsL (xs:List Int)(n:Nat):Bool:=xs.all fun x=>decide (x < (n:Int))
theorem fits_take {xs:List Int}{n k:Nat}(hk:k < xs.length)(h:fitsL (xs.take k) n=true) (hb:xs[k] < (n:Int)):fitsL (xs.take (k+1)) n=true:=by
 unfold fitsL at *;rw[List.take_succ_eq_append_getElem hk,List.all_append,h];simp[hb]
theorem fits_bad {xs:List Int}{n k:Nat}(hk:k < xs.length)(hb:¬ xs[k] < (n:Int)):fitsL xs n=false:=by
 cases h:fitsL xs n
 ·rfl
 ·unfold fitsL at h;rw[List.all_eq_true] at h;exact absurd (of_decide_eq_true (h _ (List.getElem_mem hk))) hb
set_option maxHeartbeats 800000 in
theorem fits_any (A B:Option Addr)(xs:List Int)(c d:Nat)(ps:List (Int × Int)) (w:World)(ha:Ints w A xs)(hp:ps.length≤1000000) :
  Calls Tryz.prog 174 #[.slice A xs.length c,.slice B ps.length d] w fun e w'=>e=.returned (.bool (fitsL xs ps.length))∧w'=w:=by
 have hn:=ha.le;go_enter Tryz.func174,Tryz.ntmps174;go_wp2;go_loopw [5] (fun i wr=>∃ k:Nat,k≤xs.length∧i=.int .i64 k∧wr=w∧Hid (fitsL (xs.take k) ps.length=true)) (fun i _=>xs.length - (intOf i).toNat)
 case atStart=>exact⟨0,Nat.zero_le _,rfl,rfl,hid rfl⟩
 case round=>
  obtain⟨k,hk,rfl,hw,HT⟩:=hrel;have hw2:=hw.symm;clear hw;subst hw2;by_cases hlt:k < xs.length
  ·obtain⟨b1,o1,rfl,-,hc⟩:=ha.at_ hlt;by_cases hb:xs[k] < (ps.length:Int)
   ·have d1:decide ((ps.length:Int)≤xs[k])=false:=decide_eq_false (by omega);have HN:=hid (fits_take hlt HT.out hb);go_wp2;go_roundw
    case rel=>exact⟨k+1,by omega,by go_num,(by first | rfl | trivial),HN⟩
    case measure=>simp[intOf];omega
   ·have d1:decide ((ps.length:Int)≤xs[k])=true:=decide_eq_true (by omega);have HN:=hid (fits_bad hlt hb);go_wp2;go_ret;exact⟨ret_bool HN.out.symm,rfl⟩
  ·obtain rfl:k=xs.length:=by omega
   have HN:Hid (fitsL xs ps.length=true):=hid (by have:=HT.out;rwa [List.take_length] at this);go_wp2;go_ret;exact⟨ret_bool HN.out.symm,rfl⟩
def afterL9 (l:List UInt8)(p:Int)(t:List UInt8):Int:=
 if 0≤p∧p+t.length≤l.length∧(l.drop p.toNat).take t.length=t then p+t.length else -1
set_option maxHeartbeats 800000 in
theorem after_any9 (s t:ByteArray)(p:Int)(w:World)(hs:s.size≤2147483648)(ht:t.size≤10)(hp:p≤2147483648)(hp2:-10≤p) :
  Calls Tryz.prog 204 #[.string s,.int .i64 p,.string t] w fun e w'=>e=.returned (.int .i64 (afterL9 s.data.toList p t.data.toList))∧w'=w:=by
 by_cases h1:p < 0
 ·have d1:decide (p < 0)=true:=decide_eq_true h1;have HN:Hid (afterL9 s.data.toList p t.data.toList = -1):=hid (by unfold afterL9;rw[if_neg (by omega)]);go_enter Tryz.func204,Tryz.ntmps204;go_wp2;go_ret;exact⟨ret_int HN.out.symm,rfl⟩
 ·have d1:decide (p < 0)=false:=decide_eq_false h1;by_cases h2:(s.size:Int) < p+t.size
  ·have d2:decide ((s.size:Int) < p+t.size)=true:=decide_eq_true h2;have HN:Hid (afterL9 s.data.toList p t.data.toList = -1):=hid (by unfold afterL9;rw[if_neg (by rw[← Lib.size_eq,← Lib.size_eq];omega)]);go_enter Tryz.func204,Tryz.ntmps204;go_wp2;go_ret;exact⟨ret_int HN.out.symm,rfl⟩
  ·have d2:decide ((s.size:Int) < p+t.size)=false:=decide_eq_false h2;go_enter Tryz.func204,Tryz.ntmps204;go_wp2
   ·rename_i h;have HN:afterL9 s.data.toList p t.data.toList = -1:=by
     unfold afterL9;rw[if_neg];rintro⟨-,-,h3⟩;rw[Lib.extract_toList,ByteArray.toList_eq] at h;have e:(p+(t.size:Int)).toNat - p.toNat=t.data.toList.length:=by rw[← Lib.size_eq];omega
     rw[e,h3] at h;simp at h
    go_ret;exact⟨ret_int HN.symm,rfl⟩
   ·rename_i h;have HN:afterL9 s.data.toList p t.data.toList=p+t.size:=by
     unfold afterL9;have e:(p+(t.size:Int)).toNat - p.toNat=t.data.toList.length:=by rw[← Lib.size_eq];omega
     rw[Lib.extract_toList,ByteArray.toList_eq,e] at h;have h3:(s.data.toList.drop p.toNat).take t.data.toList.length=t.data.toList:=by simpa using h
     rw[if_pos ⟨by omega,(by rw[← Lib.size_eq,← Lib.size_eq];omega),h3⟩,← Lib.size_eq]
    go_ret;exact⟨ret_int HN.symm,rfl⟩

def digRun9:List UInt8→List UInt8
 | []=>[]
 | c :: l=>if isDig9 c then c :: digRun9 l else []
def numStep (n:Int)(c:UInt8):Int:=min 10000 (10*n+digOf9 c)
def numV (l:List UInt8):Int:=l.foldl numStep 0
theorem digRun_yes9 {l:List UInt8}{j:Nat}(h:j < l.length)(hd:isDig9 l[j]=true):digRun9 (l.drop j)=l[j] :: digRun9 (l.drop (j+1)):=by
 rw[List.drop_eq_getElem_cons h];simp[digRun9,hd]
theorem digRun_no9 {l:List UInt8}{j:Nat}(h:j < l.length)(hd:isDig9 l[j]=false):digRun9 (l.drop j)=[]:=by
 rw[List.drop_eq_getElem_cons h];simp[digRun9,hd]
def numR (l:List UInt8)(p:Nat):Int × Int:=
 if (digRun9 (l.drop p)).length=0∨3 < (digRun9 (l.drop p)).length∨l.getD p 0=48 then (0,-1) else (numV (digRun9 (l.drop p)),(p:Int)+(digRun9 (l.drop p)).length)
set_option maxHeartbeats 1000000 in
theorem numR_any (s:ByteArray)(p:Nat)(w:World)(hp:p≤s.size)(hs:s.size≤2147483648) :
  Calls Tryz.prog 173 #[.string s,.int .i64 p] w fun e w'=>e=.returned (.tuple #[.int .i64 (numR s.data.toList p).1,.int .i64 (numR s.data.toList p).2])∧w'=w:=by
 obtain⟨l,hl⟩:∃ l,l=s.data.toList:=⟨_,rfl⟩
 have hgb:∀ j (h:j < s.size) (h':j < l.length),l[j]=s[j]:=by subst hl;exact get_byte9 s
 have hlen:l.length=s.size:=by rw[hl];rfl
 rw[← hl];have HG:=hid (And.intro hlen hgb);clear hl hgb hlen;obtain⟨ds,hds⟩:∃ ds,ds=digRun9 (l.drop p):=⟨_,rfl⟩
 have HR:=hid hds;clear hds;go_enter Tryz.func173,Tryz.ntmps173;go_wp2;go_loopw [1,6] (fun i n wr=>∃ (j:Nat) (m:Int) (xs:List UInt8),p≤j∧j≤s.size∧i=.int .i64 j∧n=.int .i64 m∧0≤m∧m≤10000∧wr=w∧xs.length+p=j∧Hid (m=numV xs∧ds=xs ++ digRun9 (l.drop j))) (fun i _ _=>s.size - (intOf i).toNat)
 case atStart=>exact⟨p,0,[],Nat.le_refl _,hp,rfl,rfl,by omega,by omega,rfl,by simp,hid ⟨rfl,HR.out⟩⟩
 case round=>
  obtain⟨j,m,xs,hpj,hjs,rfl,rfl,hm0,hm1,hw,hxj,HT⟩:=hrel;have hw2:=hw.symm;clear hw;subst hw2;by_cases hlt:j < s.size
  ·have hlt':j < l.length:=by rw[HG.out.1];exact hlt
   have hc0:(s[j].toNat:Int)≤255:=by have:=s[j].toNat_lt;omega
   have hdg:isDig9 l[j]=(decide ((48:Int)≤s[j].toNat) && decide ((s[j].toNat:Int)≤57)):=by rw[HG.out.2 j hlt hlt'];rfl
   have hdo:digOf9 l[j]=(s[j].toNat:Int) - 48:=by rw[HG.out.2 j hlt hlt'];rfl
   have HD:=hid (And.intro hdg hdo);clear hdg hdo;by_cases h1:48≤(s[j].toNat:Int)
   ·by_cases h2:(s[j].toNat:Int)≤57
    ·have d1:decide ((48:Int)≤s[j].toNat)=true:=decide_eq_true h1;have d2:decide ((s[j].toNat:Int)≤57)=true:=decide_eq_true h2;have HN:Hid (min 10000 (10*m+((s[j].toNat:Int) - 48))=numV (xs ++ [l[j]])∧ds=(xs ++ [l[j]]) ++ digRun9 (l.drop (j+1))):=hid ⟨by
      unfold numV;rw[List.foldl_append,List.foldl_cons,List.foldl_nil];unfold numStep;rw[HD.out.2,HT.out.1];rfl,by rw[HT.out.2,digRun_yes9 hlt' (by rw[HD.out.1,d1,d2];rfl),List.append_assoc];rfl⟩
     have hb0:0≤min 10000 (10*m+((s[j].toNat:Int) - 48)):=by omega
     have hb1:min 10000 (10*m+((s[j].toNat:Int) - 48))≤10000:=by omega
     go_wp2;go_roundw
     case rel=>exact⟨j+1,_,xs ++ [l[j]],by omega,by omega,by go_num,rfl,hb0,hb1,(by first | rfl | trivial),by simp;omega,HN⟩
     case measure=>simp[intOf];omega
    ·have d1:decide ((48:Int)≤s[j].toNat)=true:=decide_eq_true h1;have d2:decide ((s[j].toNat:Int)≤57)=false:=decide_eq_false h2;have hno:ds=xs:=by rw[HT.out.2,digRun_no9 hlt' (by rw[HD.out.1,d1,d2];rfl),List.append_nil]
     have hmv:m=numV xs:=HT.out.1;have HV:=hid (And.intro hno hmv);clear hno hmv;by_cases k1:xs.length=0
     ·have e1:((j:Int) == (p:Int))=true:=by simp;omega
      have HN:Hid (numR l p=(0,-1)):=hid (by unfold numR;rw[← HR.out,HV.out.1,if_pos (.inl k1)]);have K1:=hid k1;clear k1;go_wp2;go_ret2;rw[HN.out];exact⟨rfl,rfl⟩
     ·have e1:((j:Int) == (p:Int))=false:=by simp;omega
      by_cases k2:3 < xs.length
      ·have e2:decide ((p:Int)+3 < (j:Int))=true:=decide_eq_true (by omega);have HN:Hid (numR l p=(0,-1)):=hid (by unfold numR;rw[← HR.out,HV.out.1,if_pos (.inr (.inl k2))]);go_wp2;go_ret2;rw[HN.out];exact⟨rfl,rfl⟩
      ·have e2:decide ((p:Int)+3 < (j:Int))=false:=decide_eq_false (by omega);have hps:p < s.size:=by omega
       have hpl:p < l.length:=by rw[HG.out.1];exact hps
       have eg:l.getD p 0=s[p]:=by rw[← HG.out.2 p hps hpl];simp[List.getD,hpl]
       by_cases k3:s[p]=48
       ·have e3:((s[p].toNat:Int) == 48)=true:=by rw[k3];rfl
        have HN:Hid (numR l p=(0,-1)):=hid (by unfold numR;rw[← HR.out,HV.out.1,eg,if_pos (.inr (.inr k3))]);clear k3 eg;go_wp2;go_ret2;rw[HN.out];exact⟨rfl,rfl⟩
       ·have e3:((s[p].toNat:Int) == 48)=false:=by
         simp only[beq_eq_false_iff_ne,ne_eq];intro h;exact k3 (UInt8.toNat_inj.1 (by have:(48:UInt8).toNat=48:=rfl;omega))
        have HN:Hid (numR l p=(m,(j:Int))):=hid (by
         unfold numR;rw[← HR.out,HV.out.1,eg,if_neg (fun h=>h.elim k1 fun h=>h.elim k2 k3),HV.out.2,show (p:Int)+xs.length=j from by omega])
        clear k3 eg;go_wp2;go_ret2;rw[HN.out];exact⟨rfl,rfl⟩
   ·have d1:decide ((48:Int)≤s[j].toNat)=false:=decide_eq_false h1;have hno:ds=xs:=by rw[HT.out.2,digRun_no9 hlt' (by rw[HD.out.1,d1];rfl),List.append_nil]
    have hmv:m=numV xs:=HT.out.1;have HV:=hid (And.intro hno hmv);clear hno hmv;by_cases k1:xs.length=0
    ·have e1:((j:Int) == (p:Int))=true:=by simp;omega
     have HN:Hid (numR l p=(0,-1)):=hid (by unfold numR;rw[← HR.out,HV.out.1,if_pos (.inl k1)]);have K1:=hid k1;clear k1;go_wp2;go_ret2;rw[HN.out];exact⟨rfl,rfl⟩
    ·have e1:((j:Int) == (p:Int))=false:=by simp;omega
     by_cases k2:3 < xs.length
     ·have e2:decide ((p:Int)+3 < (j:Int))=true:=decide_eq_true (by omega);have HN:Hid (numR l p=(0,-1)):=hid (by unfold numR;rw[← HR.out,HV.out.1,if_pos (.inr (.inl k2))]);go_wp2;go_ret2;rw[HN.out];exact⟨rfl,rfl⟩
     ·have e2:decide ((p:Int)+3 < (j:Int))=false:=decide_eq_false (by omega);have hps:p < s.size:=by omega
      have hpl:p < l.length:=by rw[HG.out.1];exact hps
      have eg:l.getD p 0=s[p]:=by rw[← HG.out.2 p hps hpl];simp[List.getD,hpl]
      by_cases k3:s[p]=48
      ·have e3:((s[p].toNat:Int) == 48)=true:=by rw[k3];rfl
       have HN:Hid (numR l p=(0,-1)):=hid (by unfold numR;rw[← HR.out,HV.out.1,eg,if_pos (.inr (.inr k3))]);clear k3 eg;go_wp2;go_ret2;rw[HN.out];exact⟨rfl,rfl⟩
      ·have e3:((s[p].toNat:Int) == 48)=false:=by
        simp only[beq_eq_false_iff_ne,ne_eq];intro h;exact k3 (UInt8.toNat_inj.1 (by have:(48:UInt8).toNat=48:=rfl;omega))
       have HN:Hid (numR l p=(m,(j:Int))):=hid (by
        unfold numR;rw[← HR.out,HV.out.1,eg,if_neg (fun h=>h.elim k1 fun h=>h.elim k2 k3),HV.out.2,show (p:Int)+xs.length=j from by omega])
       clear k3 eg;go_wp2;go_ret2;rw[HN.out];exact⟨rfl,rfl⟩
  ·have d0:decide ((j:Int) < (s.size:Int))=false:=decide_eq_false (by omega);have hno:ds=xs:=by rw[HT.out.2,List.drop_of_length_le (by rw[HG.out.1];omega),show digRun9 []=[] from rfl,List.append_nil]
   have hmv:m=numV xs:=HT.out.1;have HV:=hid (And.intro hno hmv);clear hno hmv;by_cases k1:xs.length=0
   ·have e1:((j:Int) == (p:Int))=true:=by simp;omega
    have HN:Hid (numR l p=(0,-1)):=hid (by unfold numR;rw[← HR.out,HV.out.1,if_pos (.inl k1)]);have K1:=hid k1;clear k1;go_wp2;go_ret2;rw[HN.out];exact⟨rfl,rfl⟩
   ·have e1:((j:Int) == (p:Int))=false:=by simp;omega
    by_cases k2:3 < xs.length
    ·have e2:decide ((p:Int)+3 < (j:Int))=true:=decide_eq_true (by omega);have HN:Hid (numR l p=(0,-1)):=hid (by unfold numR;rw[← HR.out,HV.out.1,if_pos (.inr (.inl k2))]);go_wp2;go_ret2;rw[HN.out];exact⟨rfl,rfl⟩
    ·have e2:decide ((p:Int)+3 < (j:Int))=false:=decide_eq_false (by omega);have hps:p < s.size:=by omega
     have hpl:p < l.length:=by rw[HG.out.1];exact hps
     have eg:l.getD p 0=s[p]:=by rw[← HG.out.2 p hps hpl];simp[List.getD,hpl]
     by_cases k3:s[p]=48
     ·have e3:((s[p].toNat:Int) == 48)=true:=by rw[k3];rfl
      have HN:Hid (numR l p=(0,-1)):=hid (by unfold numR;rw[← HR.out,HV.out.1,eg,if_pos (.inr (.inr k3))]);clear k3 eg;go_wp2;go_ret2;rw[HN.out];exact⟨rfl,rfl⟩
     ·have e3:((s[p].toNat:Int) == 48)=false:=by
       simp only[beq_eq_false_iff_ne,ne_eq];intro h;exact k3 (UInt8.toNat_inj.1 (by have:(48:UInt8).toNat=48:=rfl;omega))
      have HN:Hid (numR l p=(m,(j:Int))):=hid (by
       unfold numR;rw[← HR.out,HV.out.1,eg,if_neg (fun h=>h.elim k1 fun h=>h.elim k2 k3),HV.out.2,show (p:Int)+xs.length=j from by omega])
      clear k3 eg;go_wp2;go_ret2;rw[HN.out];exact⟨rfl,rfl⟩

def digAt (l:List UInt8)(p:Int):List Int:=digAsc9 (-1) (l.drop p.toNat)
def endAt (l:List UInt8)(p:Int):Int:=p+(digAt l p).length
def cntR (l:List UInt8):List Int × List Int × Int:=
 if afterL9 l 0 [66] < 0 then
  if afterL9 l (endAt l 0) [47] < 0 then ([],[],-1)
  else (digAt l (afterL9 l (endAt l 0) [47]),digAt l 0,afterL9 l (endAt l (afterL9 l (endAt l 0) [47])) [47])
 else
  if afterL9 l (endAt l (afterL9 l 0 [66])) [47,83] < 0 then ([],[],-1)
  else (digAt l (afterL9 l 0 [66]),digAt l (afterL9 l (endAt l (afterL9 l 0 [66])) [47,83]),afterL9 l (endAt l (afterL9 l (endAt l (afterL9 l 0 [66])) [47,83])) [47,67])
def RetCnt (r:List Int × List Int × Int)(w:World)(e:Ending)(w':World):Prop:=
 ∃ A a B b,e=.returned (.tuple #[.slice A r.1.length a,.slice B r.2.1.length b,.int .i64 r.2.2])∧Ints w' A r.1∧Ints w' B r.2.1∧NewA w.heap.size A∧NewA w.heap.size B∧Below w.heap.size w w'
theorem after_le {l t:List UInt8}{p:Int}(h:¬ afterL9 l p t < 0):0≤afterL9 l p t∧afterL9 l p t≤l.length∧0≤p:=by
 unfold afterL9 at *
 split at h
 ·rename_i hc;rw[if_pos hc];omega
 ·omega
theorem digAsc_le9 (l:List UInt8):∀ last,(digAsc9 last l).length≤l.length:=by
 induction l with
 | nil=>intro last;simp[digAsc9]
 | cons c l ih=>
  intro last;unfold digAsc9
  split
  ·have:=ih (digOf9 c)
   simp;omega
  ·simp
theorem endAt_le {l:List UInt8}{p:Int}(h0:0≤p)(h1:p≤l.length):0≤endAt l p∧endAt l p≤l.length:=by
 unfold endAt digAt;have:=digAsc_le9 (l.drop p.toNat) (-1);rw[List.length_drop] at this;omega
theorem digitsAt_any (s:ByteArray)(p:Int)(w:World)(h0:0≤p)(hp:p≤s.size)(hs:s.size≤2147483648) :
  Calls Tryz.prog 205 #[.string s,.int .i64 p] w (RetIntsN9 (digAt s.data.toList p) (endAt s.data.toList p) w):=by
 have h:=digitsR_any9 s p.toNat w (by omega) hs;have e:((p.toNat:Nat):Int)=p:=by omega
 rw[e] at h;exact h
theorem results_tmp3 {fn:Func}{a b c:Tmp}(h:fn.results=#[.tmp a,.tmp b,.tmp c])(tmps:Array Value)(w:World){x y z:Value}(hx:tmps.getD a undef=x)(hy:tmps.getD b undef=y)(hz:tmps.getD c undef=z) :
  (results fn tmps).run Tryz.prog w=.ok (.tuple #[x,y,z]) w:=by
 subst hx hy hz;simp[results,h,go_sem]
set_option maxHeartbeats 2000000 in
theorem cntR_any (s:ByteArray)(w:World)(hs:s.size≤2147483648) :
  Calls Tryz.prog 172 #[.string s] w (RetCnt (cntR s.data.toList) w):=by
 obtain⟨l,hl⟩:∃ l,l=s.data.toList:=⟨_,rfl⟩
 have hlen:(l.length:Int)=s.size:=by rw[hl];rfl
 have K1:=hid (fun (p:Int) (W:World) (h0:-10≤p) (h1:p≤s.size)=>after_any9 s ⟨#[66]⟩ p W hs (by decide) (by omega) h0);have K2:=hid (fun (p:Int) (W:World) (h0:-10≤p) (h1:p≤s.size)=>after_any9 s ⟨#[47]⟩ p W hs (by decide) (by omega) h0);have K3:=hid (fun (p:Int) (W:World) (h0:-10≤p) (h1:p≤s.size)=>after_any9 s ⟨#[47,83]⟩ p W hs (by decide) (by omega) h0);have K4:=hid (fun (p:Int) (W:World) (h0:-10≤p) (h1:p≤s.size)=>after_any9 s ⟨#[47,67]⟩ p W hs (by decide) (by omega) h0);have KD:=hid (fun (p:Int) (W:World) (h0:0≤p) (h1:p≤s.size)=>digitsAt_any s p W h0 h1 hs);rw[show (ByteArray.mk #[66]).data.toList=[66] from rfl,← hl] at K1;rw[show (ByteArray.mk #[47]).data.toList=[47] from rfl,← hl] at K2;rw[show (ByteArray.mk #[47,83]).data.toList=[47,83] from rfl,← hl] at K3;rw[show (ByteArray.mk #[47,67]).data.toList=[47,67] from rfl,← hl] at K4;rw[← hl] at KD ⊢;clear hl;obtain⟨p1,hp1⟩:∃ p1,afterL9 l 0 [66]=p1:=⟨_,rfl⟩
 by_cases h1:p1 < 0
 ·have d1:decide (p1 < 0)=true:=decide_eq_true h1;obtain⟨ss,hss⟩:∃ x,digAt l 0=x:=⟨_,rfl⟩
  obtain⟨q1,hq1⟩:∃ x,endAt l 0=x:=⟨_,rfl⟩
  obtain⟨b0,b1⟩:=endAt_le (l:=l) (p:=0) (by omega) (by omega);obtain⟨p2,hp2⟩:∃ x,afterL9 l q1 [47]=x:=⟨_,rfl⟩
  rw[hq1] at b0 b1;have C1:=hid (K1.out 0 w (by omega) (by omega));have C2:=hid (fun W=>KD.out 0 W (by omega) (by omega));have C3:=hid (fun W=>K2.out q1 W (by omega) (by omega));rw[hp1] at C1;rw[hss,hq1] at C2;rw[hp2] at C3;by_cases h2:p2 < 0
  ·have d2:decide (p2 < 0)=true:=decide_eq_true h2;have HN:Hid (cntR l=([],[],-1)):=hid (by unfold cntR;rw[hp1,if_pos h1,hq1,hp2,if_pos h2]);clear hp1 hss hq1 hp2;go_enter Tryz.func172,Tryz.ntmps172;go_wp2_with fail;refine C1.out.mono ?_;rintro e w1 ⟨rfl,hw⟩;have hw2:=hw.symm;clear hw;subst hw2;go_wp2_with fail;refine (C2.out _).mono ?_;rintro e w1 ⟨A1,a1,rfl,hi1,hn1,hb1⟩;go_wp2_with fail;refine (C3.out _).mono ?_;rintro e w2 ⟨rfl,hw⟩;have hw2:=hw.symm;clear hw;subst hw2;go_wp2;refine bodyPost_ret (results_tmp3 rfl _ _ rfl rfl rfl) rfl ?_;rw[HN.out];exact⟨none,0,none,0,rfl,Ints.nil,Ints.nil,NewA.none_ _,NewA.none_ _,hb1⟩
  ·have d2:decide (p2 < 0)=false:=decide_eq_false h2;have hpl:=after_le (l:=l) (t:=[47]) (p:=q1) (by rw[hp2];exact h2);rw[hp2] at hpl;obtain⟨bs,hbs⟩:∃ x,digAt l p2=x:=⟨_,rfl⟩
   obtain⟨q2,hq2⟩:∃ x,endAt l p2=x:=⟨_,rfl⟩
   obtain⟨b2,b3⟩:=endAt_le (l:=l) (p:=p2) hpl.1 hpl.2.1;rw[hq2] at b2 b3;have C4:=hid (fun W=>KD.out p2 W hpl.1 (by omega));have C5:=hid (fun W=>K2.out q2 W (by omega) (by omega));rw[hbs,hq2] at C4;have HN:Hid (cntR l=(bs,ss,afterL9 l q2 [47])):=hid (by unfold cntR;rw[hp1,if_pos h1,hq1,hp2,if_neg h2,hbs,hss,hq2]);clear hp1 hss hq1 hp2 hbs hq2;go_enter Tryz.func172,Tryz.ntmps172;go_wp2_with fail;refine C1.out.mono ?_;rintro e w1 ⟨rfl,hw⟩;have hw2:=hw.symm;clear hw;subst hw2;go_wp2_with fail;refine (C2.out _).mono ?_;rintro e w1 ⟨A1,a1,rfl,hi1,hn1,hb1⟩;go_wp2_with fail;refine (C3.out _).mono ?_;rintro e w2 ⟨rfl,hw⟩;have hw2:=hw.symm;clear hw;subst hw2;go_wp2_with fail;refine (C4.out _).mono ?_;rintro e w2 ⟨A2,a2,rfl,hi2,hn2,hb2⟩;go_wp2_with fail;refine (C5.out _).mono ?_;rintro e w3 ⟨rfl,hw⟩;have hw2:=hw.symm;clear hw;subst hw2;go_wp2;refine bodyPost_ret (results_tmp3 rfl _ _ rfl rfl rfl) rfl ?_;rw[HN.out];exact⟨A2,a2,A1,a1,rfl,hi2,hi1.ext hb2,hn2.mono hb1.size,hn1,hb1.trans (hb2.mono hb1.size)⟩
 ·have d1:decide (p1 < 0)=false:=decide_eq_false h1;have hpl1:=after_le (l:=l) (t:=[66]) (p:=0) (by rw[hp1];exact h1);rw[hp1] at hpl1;obtain⟨bs,hbs⟩:∃ x,digAt l p1=x:=⟨_,rfl⟩
  obtain⟨q1,hq1⟩:∃ x,endAt l p1=x:=⟨_,rfl⟩
  obtain⟨b0,b1⟩:=endAt_le (l:=l) (p:=p1) hpl1.1 hpl1.2.1;obtain⟨p2,hp2⟩:∃ x,afterL9 l q1 [47,83]=x:=⟨_,rfl⟩
  rw[hq1] at b0 b1;have C1:=hid (K1.out 0 w (by omega) (by omega));have C2:=hid (fun W=>KD.out p1 W hpl1.1 (by omega));have C3:=hid (fun W=>K3.out q1 W (by omega) (by omega));rw[hp1] at C1;rw[hbs,hq1] at C2;rw[hp2] at C3;by_cases h2:p2 < 0
  ·have d2:decide (p2 < 0)=true:=decide_eq_true h2;have HN:Hid (cntR l=([],[],-1)):=hid (by unfold cntR;rw[hp1,if_neg h1,hq1,hp2,if_pos h2]);clear hp1 hbs hq1 hp2;go_enter Tryz.func172,Tryz.ntmps172;go_wp2_with fail;refine C1.out.mono ?_;rintro e w1 ⟨rfl,hw⟩;have hw2:=hw.symm;clear hw;subst hw2;go_wp2_with fail;refine (C2.out _).mono ?_;rintro e w1 ⟨A1,a1,rfl,hi1,hn1,hb1⟩;go_wp2_with fail;refine (C3.out _).mono ?_;rintro e w2 ⟨rfl,hw⟩;have hw2:=hw.symm;clear hw;subst hw2;go_wp2;refine bodyPost_ret (results_tmp3 rfl _ _ rfl rfl rfl) rfl ?_;rw[HN.out];exact⟨none,0,none,0,rfl,Ints.nil,Ints.nil,NewA.none_ _,NewA.none_ _,hb1⟩
  ·have d2:decide (p2 < 0)=false:=decide_eq_false h2;have hpl:=after_le (l:=l) (t:=[47,83]) (p:=q1) (by rw[hp2];exact h2);rw[hp2] at hpl;obtain⟨ss,hss⟩:∃ x,digAt l p2=x:=⟨_,rfl⟩
   obtain⟨q2,hq2⟩:∃ x,endAt l p2=x:=⟨_,rfl⟩
   obtain⟨b2,b3⟩:=endAt_le (l:=l) (p:=p2) hpl.1 hpl.2.1;rw[hq2] at b2 b3;have C4:=hid (fun W=>KD.out p2 W hpl.1 (by omega));have C5:=hid (fun W=>K4.out q2 W (by omega) (by omega));rw[hss,hq2] at C4;have HN:Hid (cntR l=(bs,ss,afterL9 l q2 [47,67])):=hid (by unfold cntR;rw[hp1,if_neg h1,hq1,hp2,if_neg h2,hbs,hss,hq2]);clear hp1 hss hq1 hp2 hbs hq2;go_enter Tryz.func172,Tryz.ntmps172;go_wp2_with fail;refine C1.out.mono ?_;rintro e w1 ⟨rfl,hw⟩;have hw2:=hw.symm;clear hw;subst hw2;go_wp2_with fail;refine (C2.out _).mono ?_;rintro e w1 ⟨A1,a1,rfl,hi1,hn1,hb1⟩;go_wp2_with fail;refine (C3.out _).mono ?_;rintro e w2 ⟨rfl,hw⟩;have hw2:=hw.symm;clear hw;subst hw2;go_wp2_with fail;refine (C4.out _).mono ?_;rintro e w2 ⟨A2,a2,rfl,hi2,hn2,hb2⟩;go_wp2_with fail;refine (C5.out _).mono ?_;rintro e w3 ⟨rfl,hw⟩;have hw2:=hw.symm;clear hw;subst hw2;go_wp2;refine bodyPost_ret (results_tmp3 rfl _ _ rfl rfl rfl) rfl ?_;rw[HN.out];exact⟨A1,a1,A2,a2,rfl,hi1.ext hb2,hi2,hn1,hn2.mono hb1.size,hb1.trans (hb2.mono hb1.size)⟩
end Go.Proofs.YtcfelnhmifkelaaGreatDoor
