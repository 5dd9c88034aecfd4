/-
  texts RLn11 RWd11 RHdA: parts of the proof; conditions stand with each theorem.
-/
import Derived.Test.YtcmbdhopmncmnaaGreatDoorWG9
import Derived.Test.YtcmbdhopmncmnaaGreatDoorWG0
import Derived.Test.YtcmbdhopmncmnaaGreatDoorWG10
import Derived.Test.YtcmbdhopmncmnaaGreatDoorWG14
namespace Go.Proofs.YtcmbdhopmncmnaaGreatDoor
open Lib(hid)
open Go.RowKit
set_option maxRecDepth 100000
set_option linter.unusedVariables false
set_option linter.unusedSimpArgs false
theorem Tryz.infoString:(Tryz.prog.info? 9).map (fun i=>(i.zero,i.size,i.bytes))=some (some (.string ⟨#[]⟩),1,16):=by kernel_rfl
theorem wpList_pushS {P:Program}{wr:World}{ops:Array Oper}{rest:List Oper}{o:Oper}{a:Act}{Q:Exit→Act→World→Prop}(hgd:o.guard=none)(s x:Operand)(t:TypeId)
  (ho:o.op=.call { callee:=.builtin .append,args:=#[s,x],argTypes:=#[t,t] })
  (base:Nat) (e:TypeId) (ht:P.underlying t=some (.slice e)) (hi:(P.info? e).map (fun i=>(i.zero,i.size,i.bytes))=some (some (.string ⟨#[]⟩),1,16))
  (v:Value) (bs:List ByteArray) (hs:a.eval s=v) (hown:OwnS e wr base v bs)
  (b:ByteArray) (hx:a.eval x=.slice (some ⟨wr.heap.size,0,none⟩) 1 1)
  (hn:bs.length < 4294967296) (hbase:base≤wr.heap.size)
  (h:∀ v' w',OwnS e w' base v' (bs ++ [b])→Below base wr w'→wpList P ops Q rest (a.put o.dst v') w') :
  wpList P ops Q (o :: rest) a (wr.alloc (.cells #[.string b] e)):=
 wpList_push hgd s x t ho base e _ 1 16 ht hi rfl (by decide) v bs.length _ hs hown [.string b] rfl hx (by simp[Value.oneCell']) (by unfold maxLen;omega) (by omega) hbase
  (fun v' w' h1 h2=>h v' w' (by unfold OwnS;rw[List.length_append,List.map_append];exact h1) h2)
theorem lines_ne:∀ l:List UInt8,lines11 l≠[]
 | []=>by decide
 | c :: r=>by
  show (if c=10 then _ else _)≠_
  split
  ·simp
  ·split <;> simp
def contL (cur rest:List UInt8):List (List UInt8):=match lines11 rest with
 | x :: r=>(cur ++ x) :: r
 | []=>[cur]
theorem contL_nil (l:List UInt8):contL [] l=lines11 l:=by
 unfold contL;cases h:lines11 l with
 | nil=>exact absurd h (lines_ne l)
 | cons x r=>rfl
theorem contL_end (cur:List UInt8):contL cur []=[cur]:=by unfold contL lines11;simp
theorem contL_feed (cur r:List UInt8):contL cur (10 :: r)=cur :: lines11 r:=by
 unfold contL;rw[show lines11 (10 :: r)=[] :: lines11 r from if_pos rfl]
 simp
theorem contL_byte {c:UInt8}(h:c≠10)(cur r:List UInt8):contL cur (c :: r)=contL (cur ++ [c]) r:=by
 unfold contL;have e:lines11 (c :: r)=match lines11 r with
  | x :: l=>(c :: x) :: l
  | []=>[[c]]:=if_neg h
 rw[e];cases h2:lines11 r with
 | nil=>exact absurd h2 (lines_ne r)
 | cons x l=>simp
theorem piece_toList (s:ByteArray){i j:Nat}(hij:i≤j)(hj:j≤s.size):(s.extract i j).data.toList=(s.data.toList.take j).drop i:=by
 rw[ByteArray.data_extract,Array.toList_extract,List.extract_eq_take_drop,List.drop_take]
theorem take_drop_succ {l:List UInt8}{i k:Nat}(hik:i≤k)(hk:k < l.length):(l.take (k+1)).drop i=(l.take k).drop i ++ [l[k]]:=by
 rw[List.take_succ_eq_append_getElem hk,List.drop_append_of_le_length (by rw[List.length_take];omega)]
theorem meas_r {n k:Nat}(h:k < n):n - (intOf (.int .i64 ((k:Int)+1))).toNat < n - (intOf (.int .i64 (k:Int))).toNat:=by
 simp[intOf];omega
theorem meas_r1 {n k:Nat}(h:k≤n):n+1 - (intOf (.int .i64 ((k:Int)+1))).toNat < n+1 - (intOf (.int .i64 (k:Int))).toNat:=by
 simp[intOf];omega
set_option maxHeartbeats 8000000 in
theorem rlines_any (s:ByteArray)(w:World)(hs:s.size≤2147483648) :
  Calls Tryz.prog 49 #[.string s] w fun e w'=>∃ A c ls,e=.returned (.slice A ls.length c)∧Sts w' A ls∧wdsB ls=lines11 s.data.toList∧NewA w.heap.size A∧Below w.heap.size w w':=by
 have HS:=hid hs;obtain⟨l,hl⟩:∃ l,l=s.data.toList:=⟨_,rfl⟩
 have hgb:∀ j (h:j < s.size) (h':j < l.length),l[j]=s[j]:=by subst hl;exact byte11 s
 have hlen:l.length=s.size:=by rw[hl];rfl
 have hpc:∀ i j,i≤j→j≤s.size→(s.extract i j).data.toList=(l.take j).drop i:=by subst hl;exact fun i j h1 h2=>piece_toList s h1 h2
 rw[← hl];have HG:=hid (And.intro hlen (And.intro hgb hpc));clear hl hgb hlen hpc hs;go_enter Tryz.func49,Tryz.ntmps49;go_wp2;go_loopw [3,4,5] (fun v f i wr=>∃ (k from_:Nat) (ls:List ByteArray),k≤s.size∧from_≤k∧i=.int .i64 k∧f=.int .i64 from_∧Hid (OwnS 9 wr w.heap.size v ls)∧Hid (Below w.heap.size w wr)∧Hid (lines11 l=wdsB ls ++ contL ((l.take k).drop from_) (l.drop k))∧Hid (ls.length≤k)) (fun _ _ i _=>s.size - (intOf i).toNat)
 case atStart=>exact⟨0,0,[],Nat.zero_le _,Nat.le_refl _,rfl,rfl,hid (OwnS.nil _ _ _),hid (Below.refl _ _),hid (by rw[List.drop_zero];exact (contL_nil l).symm),hid (Nat.le_refl _)⟩
 case round=>
  obtain⟨k,from_,ls,hk,hf,rfl,rfl,HO,HB,HL,HN⟩:=hrel;by_cases hlt:k < s.size
  ·have hlt':k < l.length:=by rw[HG.out.1];exact hlt
   have hwk:wrap64 ((k:Int)+1)=(k:Int)+1:=by have:=HS.out;unfold wrap64;omega
   have hdr:l.drop k=l[k] :: l.drop (k+1):=List.drop_eq_getElem_cons hlt';have hby:=HG.out.2.1 k hlt hlt';by_cases h10:s[k]=10
   ·have e1:((s[k].toNat:Int) == 10)=true:=by rw[h10];rfl
    have HL2:Hid (lines11 l=wdsB (ls ++ [s.extract from_ k]) ++ contL ((l.take (k+1)).drop (k+1)) (l.drop (k+1))):=hid (by
     rw[HL.out,hdr,hby,h10,contL_feed,List.drop_eq_nil_of_le (show (l.take (k+1)).length≤k+1 from List.length_take_le _ _),contL_nil];unfold wdsB;rw[List.map_append,List.map_cons,List.map_nil,HG.out.2.2 from_ k hf hk,List.append_assoc];rfl)
    have HF:=hid hf;have HLT:=hid hlt;clear h10 hdr hby hlt';go_wp2_with (at_builtin;refine wpList_pushS rfl _ _ 70 rfl w.heap.size 9 (by kernel_rfl) Tryz.infoString _ ls rfl HO.out (s.extract from_ k) rfl ?c1 HB.out.size ?_)
    case c1=>have:=HN.out;have:=HS.out;omega
    intro v' w' ho hb;have HO2:=hid ho;have HB2:=hid (HB.out.trans hb);clear ho hb;go_wp2;go_roundw
    case rel=>exact⟨k+1,k+1,_,HLT.out,Nat.le_refl _,by go_num,by go_num,HO2,HB2,HL2,hid (by rw[List.length_append];have:=HN.out;simp;omega)⟩
    case measure=>rw[hwk];exact meas_r HLT.out
   ·have e1:((s[k].toNat:Int) == 10)=false:=by
     simp only[beq_eq_false_iff_ne,ne_eq];intro h;exact h10 (UInt8.toNat_inj.1 (by have:(10:UInt8).toNat=10:=rfl;omega))
    have HL2:Hid (lines11 l=wdsB ls ++ contL ((l.take (k+1)).drop from_) (l.drop (k+1))):=hid (by
     rw[HL.out,hdr,contL_byte (by rw[hby];exact h10),take_drop_succ hf hlt'])
    have HF:=hid hf;have HLT:=hid hlt;clear h10 hdr hby hlt';go_wp2;go_roundw
    case rel=>exact⟨k+1,from_,ls,HLT.out,Nat.le_succ_of_le HF.out,by go_num,rfl,HO,HB,HL2,hid (Nat.le_succ_of_le HN.out)⟩
    case measure=>rw[hwk];exact meas_r HLT.out
  ·obtain rfl:k=s.size:=Nat.le_antisymm hk (Nat.le_of_not_lt hlt);have HL2:Hid (wdsB (ls ++ [s.extract from_ s.size])=lines11 l):=hid (by
    rw[HL.out,show l.drop s.size=[] from List.drop_eq_nil_of_le (by rw[HG.out.1];exact Nat.le_refl _),contL_end];unfold wdsB;rw[List.map_append,List.map_cons,List.map_nil,HG.out.2.2 from_ s.size hf (Nat.le_refl _)])
   go_wp2_with (at_builtin;refine wpList_pushS rfl _ _ 70 rfl w.heap.size 9 (by kernel_rfl) Tryz.infoString _ ls rfl HO.out (s.extract from_ s.size) rfl ?c1 HB.out.size ?_)
   case c1=>have:=HN.out;have:=HS.out;omega
   intro v' w' ho hb;obtain⟨A,c,rfl,h1,h2⟩:=ho.sts;have HO2:=hid (And.intro h1 h2);have HB2:=hid (HB.out.trans hb);clear ho hb h1 h2;go_wp2;go_ret;exact⟨A,c,_,rfl,HO2.out.1,HL2.out,HO2.out.2,HB2.out⟩
theorem byte_dec (b:UInt8)(n:Nat)(hn:n < 256):((b.toNat:Int) == (n:Int))=decide (b=UInt8.ofNat n):=by
 have h1:(UInt8.ofNat n).toNat=n:=by simp;omega
 by_cases h:b=UInt8.ofNat n
 ·rw[decide_eq_true h,beq_iff_eq,h,h1]
 ·rw[decide_eq_false h,beq_eq_false_iff_ne];intro e;exact h (UInt8.toNat_inj.1 (by omega))
theorem str_nil_dec (b:ByteArray):(b.toList == [])=decide (b.data.toList=[]):=str_eq b []
def putW (ls:List ByteArray)(wb:ByteArray):List ByteArray:=if wb.data.toList=[] then ls else ls ++ [wb]
theorem putW_wds (ls:List ByteArray)(wb:ByteArray):wdsB (putW ls wb)=wdsB ls ++ (if wb.data.toList=[] then [] else [wb.data.toList]):=by
 unfold putW
 split
 ·rw[List.append_nil]
 ·unfold wdsB;rw[List.map_append];rfl
theorem putW_len (ls:List ByteArray)(wb:ByteArray):(putW ls wb).length≤ls.length+1:=by
 unfold putW
 split
 ·omega
 ·rw[List.length_append];simp
theorem putW_nil {ls:List ByteArray}{wb:ByteArray}(h:wb.data.toList=[]):putW ls wb=ls:=if_pos h
theorem putW_one {ls:List ByteArray}{wb:ByteArray}(h:¬ wb.data.toList=[]):putW ls wb=ls ++ [wb]:=if_neg h
theorem rw_end (acc:List Wd)(cur:Wd):rwordsL acc cur []=acc ++ (if cur=[] then [] else [cur]):=rfl
theorem rw_hash {acc:List Wd}{cur:Wd}{r:List UInt8}:rwordsL acc cur (35 :: r)=acc ++ (if cur=[] then [] else [cur]):=rfl
theorem rw_sep {acc:List Wd}{cur:Wd}{c:UInt8}{r:List UInt8}(h:c=32∨c=9):rwordsL acc cur (c :: r)=rwordsL (acc ++ (if cur=[] then [] else [cur])) [] r:=by
 rcases h with rfl | rfl <;> rfl
theorem rw_byte {acc:List Wd}{cur:Wd}{c:UInt8}{r:List UInt8}(h1:¬ c=35)(h2:¬ c=32)(h3:¬ c=9):rwordsL acc cur (c :: r)=rwordsL acc (cur ++ [c]) r:=by
 show (if c=35 then _ else if sepB c=true then _ else _)=_;rw[if_neg h1,if_neg];unfold sepB;simp[h2,h3]
set_option maxHeartbeats 16000000 in
theorem rwords_any (s:ByteArray)(w:World)(hs:s.size≤2147483648) :
  Calls Tryz.prog 50 #[.string s] w fun e w'=>∃ A c ls,e=.returned (.slice A ls.length c)∧Sts w' A ls∧wdsB ls=wordsL s.data.toList∧NewA w.heap.size A∧Below w.heap.size w w':=by
 have HS:=hid hs;obtain⟨l,hl⟩:∃ l,l=s.data.toList:=⟨_,rfl⟩
 have hgb:∀ j (h:j < s.size) (h':j < l.length),l[j]=s[j]:=by subst hl;exact byte11 s
 have hlen:l.length=s.size:=by rw[hl];rfl
 have hpc:∀ i j,i≤j→j≤s.size→(s.extract i j).data.toList=(l.take j).drop i:=by subst hl;exact fun i j h1 h2=>piece_toList s h1 h2
 rw[← hl];have HG:=hid (And.intro hlen (And.intro hgb hpc));obtain⟨res,hres⟩:∃ r,r=wordsL l:=⟨_,rfl⟩
 rw[← hres];have HR0:Hid (rwordsL [] [] l=res):=hid (by rw[hres];exact rwords_all l);clear hl hgb hlen hpc hs hres;go_enter Tryz.func50,Tryz.ntmps50;go_wp2;go_loopw [3,4,5] (fun v u i wr=>∃ (k:Nat) (wb:ByteArray) (ls:List ByteArray),k≤s.size+1∧i=.int .i64 k∧u=.string wb∧Hid (OwnS 9 wr w.heap.size v ls)∧Hid (Below w.heap.size w wr)∧Hid (k≤s.size→rwordsL (wdsB ls) wb.data.toList (l.drop k)=res)∧Hid (k=s.size+1→wdsB ls=res)∧Hid (ls.length≤k∧wb.size≤k)) (fun _ _ i _=>s.size+1 - (intOf i).toNat)
 case atStart=>exact⟨0,⟨#[]⟩,[],Nat.zero_le _,rfl,rfl,hid (OwnS.nil _ _ _),hid (Below.refl _ _),hid (fun _=>by rw[List.drop_zero];exact HR0.out),hid (fun h=>by omega),hid ⟨Nat.le_refl _,Nat.le_refl _⟩⟩
 case round=>
  obtain⟨k,wb,ls,hk,rfl,rfl,HO,HB,HL,HE,HN⟩:=hrel;by_cases hle:k≤s.size
  ·have dle:decide ((k:Int)≤(s.size:Int))=true:=decide_eq_true (by omega);have hwk:wrap64 ((k:Int)+1)=(k:Int)+1:=by have:=HS.out;unfold wrap64;omega
   have HPW:=hid (putW_wds ls wb);have HPL:=hid (putW_len ls wb);have HK:=hid hle;by_cases heq:k=s.size
   ·have e0:((k:Int) == (s.size:Int))=true:=by rw[beq_iff_eq];omega
    have dlt:decide ((k:Int) < (s.size:Int))=false:=decide_eq_false (by omega);have HF:Hid (wdsB (putW ls wb)=res):=hid (by
     have h:=HL.out (by omega);rw[show l.drop k=[] from List.drop_eq_nil_of_le (by rw[HG.out.1];omega),rw_end] at h;rw[HPW.out];exact h)
    have HQ:=hid heq;clear heq hle hk;by_cases hw:wb.data.toList=[]
    ·have dn:(wb.toList == [])=true:=by rw[str_nil_dec];exact decide_eq_true hw
     have HPN:=hid (putW_nil (ls:=ls) hw);rw[HPN.out] at HF HPL;clear hw;go_wp2;go_roundw
     case rel=>exact⟨k+1,⟨#[]⟩,ls,Nat.succ_le_succ HK.out,by go_num,rfl,HO,HB,hid (fun h=>by have:=HQ.out;omega),hid (fun _=>HF.out),hid ⟨by have:=HPL.out;have:=HN.out.1;omega,Nat.zero_le _⟩⟩
     case measure=>rw[hwk];exact meas_r1 HK.out
    ·have dn:(wb.toList == [])=false:=by rw[str_nil_dec];exact decide_eq_false hw
     have HPN:=hid (putW_one (ls:=ls) hw);rw[HPN.out] at HF HPL;clear hw;go_wp2_with (at_builtin;refine wpList_pushS rfl _ _ 70 rfl w.heap.size 9 (by kernel_rfl) Tryz.infoString _ ls rfl HO.out wb rfl ?c1 HB.out.size ?_)
     case c1=>have:=HN.out.1;have:=HS.out;have:=HK.out;omega
     intro v' w' ho hb;have HO2:=hid ho;have HB2:=hid (HB.out.trans hb);clear ho hb;go_wp2;go_roundw
     case rel=>exact⟨k+1,⟨#[]⟩,_,Nat.succ_le_succ HK.out,by go_num,rfl,HO2,HB2,hid (fun h=>by have:=HQ.out;omega),hid (fun _=>HF.out),hid ⟨by have:=HPL.out;have:=HN.out.1;omega,Nat.zero_le _⟩⟩
     case measure=>rw[hwk];exact meas_r1 HK.out
   ·have hlt:k < s.size:=by omega
    have e0:((k:Int) == (s.size:Int))=false:=beq_false_of_ne (by omega);have dlt:decide ((k:Int) < (s.size:Int))=true:=decide_eq_true (by omega);have hlt':k < l.length:=by rw[HG.out.1];exact hlt
    have hdr:l.drop k=l[k] :: l.drop (k+1):=List.drop_eq_getElem_cons hlt';have hby:l[k]=s[k]:=HG.out.2.1 k hlt hlt';have hl0:=HL.out (by omega);rw[hdr,hby] at hl0;have b35:=byte_dec s[k] 35 (by omega);have b32:=byte_dec s[k] 32 (by omega);have b9:=byte_dec s[k] 9 (by omega);by_cases h35:s[k]=35
    ·rw[h35,rw_hash] at hl0;have HF:Hid (wdsB (putW ls wb)=res):=hid (by rw[HPW.out];exact hl0);have c35:((s[k].toNat:Int) == 35)=true:=by rw[h35];rfl
     have c32:((s[k].toNat:Int) == 32)=false:=by rw[h35];rfl
     have c9:((s[k].toNat:Int) == 9)=false:=by rw[h35];rfl
     have HLT:=hid hlt;clear b35 b32 b9 h35 hl0 hby hdr hlt' heq hle hk;by_cases hw:wb.data.toList=[]
     ·have dn:(wb.toList == [])=true:=by rw[str_nil_dec];exact decide_eq_true hw
      have HPN:=hid (putW_nil (ls:=ls) hw);rw[HPN.out] at HF HPL;clear hw;obtain⟨A,c,rfl,h1,h2⟩:=HO.out.sts;have HO3:=hid (And.intro h1 h2);clear h1 h2;go_wp2;go_ret;exact⟨A,c,_,rfl,HO3.out.1,HF.out,HO3.out.2,HB.out⟩
     ·have dn:(wb.toList == [])=false:=by rw[str_nil_dec];exact decide_eq_false hw
      have HPN:=hid (putW_one (ls:=ls) hw);rw[HPN.out] at HF HPL;clear hw;go_wp2_with (at_builtin;refine wpList_pushS rfl _ _ 70 rfl w.heap.size 9 (by kernel_rfl) Tryz.infoString _ ls rfl HO.out wb rfl ?c1 HB.out.size ?_)
      case c1=>have:=HN.out.1;have:=HS.out;have:=HK.out;omega
      intro v' w' ho hb;have HO2:=hid ho;have HB2:=hid (HB.out.trans hb);clear ho hb;obtain⟨A,c,rfl,h1,h2⟩:=HO2.out.sts;have HO3:=hid (And.intro h1 h2);clear h1 h2;go_wp2;go_ret;exact⟨A,c,_,rfl,HO3.out.1,HF.out,HO3.out.2,HB2.out⟩
    ·have c35:((s[k].toNat:Int) == 35)=false:=by rw[show (35:Int)=((35:Nat):Int) from rfl,b35];exact decide_eq_false h35
     by_cases h32:s[k]=32
     ·rw[rw_sep (.inl h32),← HPW.out] at hl0;have HF:=hid hl0;have c32:((s[k].toNat:Int) == 32)=true:=by rw[h32];rfl
      have HLT:=hid hlt;clear b35 b32 b9 h35 hl0 hby hdr hlt' heq hle hk h32;by_cases hw:wb.data.toList=[]
      ·have dn:(wb.toList == [])=true:=by rw[str_nil_dec];exact decide_eq_true hw
       have HPN:=hid (putW_nil (ls:=ls) hw);rw[HPN.out] at HF HPL;clear hw;go_wp2;go_roundw
       case rel=>exact⟨k+1,⟨#[]⟩,ls,Nat.succ_le_succ HK.out,by go_num,rfl,HO,HB,hid (fun _=>HF.out),hid (fun h=>by have:=HLT.out;omega),hid ⟨by have:=HPL.out;have:=HN.out.1;omega,Nat.zero_le _⟩⟩
       case measure=>rw[hwk];exact meas_r1 HK.out
      ·have dn:(wb.toList == [])=false:=by rw[str_nil_dec];exact decide_eq_false hw
       have HPN:=hid (putW_one (ls:=ls) hw);rw[HPN.out] at HF HPL;clear hw;go_wp2_with (at_builtin;refine wpList_pushS rfl _ _ 70 rfl w.heap.size 9 (by kernel_rfl) Tryz.infoString _ ls rfl HO.out wb rfl ?c1 HB.out.size ?_)
       case c1=>have:=HN.out.1;have:=HS.out;have:=HK.out;omega
       intro v' w' ho hb;have HO2:=hid ho;have HB2:=hid (HB.out.trans hb);clear ho hb;go_wp2;go_roundw
       case rel=>exact⟨k+1,⟨#[]⟩,_,Nat.succ_le_succ HK.out,by go_num,rfl,HO2,HB2,hid (fun _=>HF.out),hid (fun h=>by have:=HLT.out;omega),hid ⟨by have:=HPL.out;have:=HN.out.1;omega,Nat.zero_le _⟩⟩
       case measure=>rw[hwk];exact meas_r1 HK.out
     ·have c32:((s[k].toNat:Int) == 32)=false:=by rw[show (32:Int)=((32:Nat):Int) from rfl,b32];exact decide_eq_false h32
      by_cases h9:s[k]=9
      ·rw[rw_sep (.inr h9),← HPW.out] at hl0;have HF:=hid hl0;have c9:((s[k].toNat:Int) == 9)=true:=by rw[h9];rfl
       have HLT:=hid hlt;clear b35 b32 b9 h35 hl0 hby hdr hlt' heq hle hk h32 h9;by_cases hw:wb.data.toList=[]
       ·have dn:(wb.toList == [])=true:=by rw[str_nil_dec];exact decide_eq_true hw
        have HPN:=hid (putW_nil (ls:=ls) hw);rw[HPN.out] at HF HPL;clear hw;go_wp2;go_roundw
        case rel=>exact⟨k+1,⟨#[]⟩,ls,Nat.succ_le_succ HK.out,by go_num,rfl,HO,HB,hid (fun _=>HF.out),hid (fun h=>by have:=HLT.out;omega),hid ⟨by have:=HPL.out;have:=HN.out.1;omega,Nat.zero_le _⟩⟩
        case measure=>rw[hwk];exact meas_r1 HK.out
       ·have dn:(wb.toList == [])=false:=by rw[str_nil_dec];exact decide_eq_false hw
        have HPN:=hid (putW_one (ls:=ls) hw);rw[HPN.out] at HF HPL;clear hw;go_wp2_with (at_builtin;refine wpList_pushS rfl _ _ 70 rfl w.heap.size 9 (by kernel_rfl) Tryz.infoString _ ls rfl HO.out wb rfl ?c1 HB.out.size ?_)
        case c1=>have:=HN.out.1;have:=HS.out;have:=HK.out;omega
        intro v' w' ho hb;have HO2:=hid ho;have HB2:=hid (HB.out.trans hb);clear ho hb;go_wp2;go_roundw
        case rel=>exact⟨k+1,⟨#[]⟩,_,Nat.succ_le_succ HK.out,by go_num,rfl,HO2,HB2,hid (fun _=>HF.out),hid (fun h=>by have:=HLT.out;omega),hid ⟨by have:=HPL.out;have:=HN.out.1;omega,Nat.zero_le _⟩⟩
        case measure=>rw[hwk];exact meas_r1 HK.out
      ·have c9:((s[k].toNat:Int) == 9)=false:=by rw[show (9:Int)=((9:Nat):Int) from rfl,b9];exact decide_eq_false h9
       rw[rw_byte h35 h32 h9] at hl0;have hx:(wb ++ s.extract k (k+1)).data.toList=wb.data.toList ++ [s[k]]:=by
        rw[ByteArray.data_append,Array.toList_append,HG.out.2.2 k (k+1) (by omega) (by omega),take_drop_succ (Nat.le_refl k) hlt',List.drop_eq_nil_of_le (show (l.take k).length≤k from List.length_take_le _ _),hby];rfl
       rw[← hx] at hl0;have HF:=hid hl0;have HSZ:Hid ((wb ++ s.extract k (k+1)).size≤k+1):=hid (by
        have h:=congrArg List.length hx;rw[List.length_append] at h;have h1:(wb ++ s.extract k (k+1)).data.toList.length=(wb ++ s.extract k (k+1)).size:=rfl;have h2:wb.data.toList.length=wb.size:=rfl;have:=HN.out.2;simp only[List.length_cons,List.length_nil] at h;omega)
       have hcat:¬ 9223372036854775807 < wb.size+1:=by have:=HN.out.2;have:=HS.out;omega
       have HLT:=hid hlt;clear b35 b32 b9 h35 hl0 hby hdr hlt' heq hle hk h32 h9 hx;go_wp2;go_roundw
       case rel=>exact⟨k+1,_,ls,Nat.succ_le_succ HK.out,by go_num,rfl,HO,HB,hid (fun _=>HF.out),hid (fun h=>by have:=HLT.out;omega),hid ⟨Nat.le_succ_of_le HN.out.1,HSZ.out⟩⟩
       case measure=>rw[hwk];exact meas_r1 HK.out
  ·have dle:decide ((k:Int)≤(s.size:Int))=false:=decide_eq_false (by omega);have HF:=hid (HE.out (by omega));obtain⟨A,c,rfl,h1,h2⟩:=HO.out.sts;have HO2:=hid (And.intro h1 h2);have hgt:s.size < k:=Nat.lt_of_not_le hle;clear h1 h2 hk;go_wp2;go_ret;exact⟨A,c,_,rfl,HO2.out.1,HF.out,HO2.out.2,HB.out⟩
end Go.Proofs.YtcmbdhopmncmnaaGreatDoor
namespace Go.Proofs.YtcmbdhopmncmnaaGreatDoor
open Lib(hid)
open Go.RowKit Go.Maps
set_option maxRecDepth 100000
set_option linter.unusedVariables false
set_option linter.unusedSimpArgs false
def headsB:List ByteArray:=[⟨#[115,116,97,116,101,115]⟩,⟨#[104,111,111,100]⟩,⟨#[115,121,109,109,101,116,114,121]⟩]
def HdPost (hA:Option Addr)(hood0:List (Int × Int))(vA:Option Addr)(vn vc:Nat)(rA:Option Addr)(rn rc:Nat)(vars:List (List Int))(rows:List Rw)(r:PSt × Int)(w:World)(e:Ending)(w':World):Prop:=
 ∃ st' sym' hA' hc' hd',e=.returned (.tuple #[.agg #[.int .i64 st',.int .i64 sym',.slice hA' (List.length (α:=Int × Int) hd') hc',.slice vA vn vc,.slice rA rn rc],.int .i64 r.2])∧Below w.heap.size w w'∧Pts w' hA' hd'∧((hA'=hA∧hd'=hood0)∨NewA w.heap.size hA')∧(r.2=0→r.1.t=⟨st',sym',hd',vars,rows⟩)
theorem hoodsB_eq:wdsB hoodsB=hoodsW:=by decide
theorem below_self (R:Nat)(w:World)(h:R≤w.heap.size):Below R w w:=(Below.refl w.heap.size w).mono h
theorem Pts.set5_new {W:World}{A:Option Addr}{ps:List (Int × Int)}(h:Pts W A ps){B g:Nat}(hn:NewA B A)(hg:g < B)(a b c d e:Value):Pts (set5 W g a b c d e) A ps:=
 ((((h.set_new (p:=⟨g,0,none⟩) hn hg a).set_new (p:=⟨g,1,none⟩) hn hg b).set_new (p:=⟨g,2,none⟩) hn hg c).set_new (p:=⟨g,3,none⟩) hn hg d).set_new (p:=⟨g,4,none⟩) hn hg e
set_option maxHeartbeats 16000000 in
theorem rhead_0 (t:TabL)(names:List Wd)(hA:Option Addr)(hc:Nat)(vA:Option Addr)(vn vc:Nat)(rA:Option Addr)(rn rc:Nat)(A:Option Addr)(wc:Nat)(ws:List ByteArray)(w:World)(hH:Pts w hA t.hood)(hS:Sts w A ws)(hw:∀ x ∈ ws,x.size≤2147483648)(hlen:ws≠[]) :
  Calls Tryz.prog 51 #[.agg #[.int .i64 t.st,.int .i64 t.sym,.slice hA t.hood.length hc,.slice vA vn vc,.slice rA rn rc],.int .i64 0,.slice A ws.length wc] w (HdPost hA t.hood vA vn vc rA rn rc t.vars t.rows (headW ⟨0,t,names⟩ (wdsB ws)) w):=by
 obtain⟨R,hR⟩:∃ R,R=w.heap.size:=⟨_,rfl⟩
 obtain⟨w1,hw1⟩:∃ W,W=((w.alloc (.cells #[.int .i64 t.st,.int .i64 t.sym,.slice hA t.hood.length hc,.slice vA vn vc,.slice rA rn rc] 26)).alloc (.cells #[.int .i64 0,.int .i64 0,.slice none 0 0,.slice none 0 0,.slice none 0 0] 26)).alloc (.cells #[.string ⟨#[115,116,97,116,101,115]⟩,.string ⟨#[104,111,111,100]⟩,.string ⟨#[115,121,109,109,101,116,114,121]⟩] 9):=⟨_,rfl⟩
 have hb1:Below R w w1:=by
  rw[hw1,hR];exact (((Below.refl _ w).alloc (Nat.le_refl _) _).alloc (by simp) _).alloc (by simp;omega) _
 have p1:Blk w1 R 26 #[.int .i64 t.st,.int .i64 t.sym,.slice hA t.hood.length hc,.slice vA vn vc,.slice rA rn rc]:=by rw[hw1,hR];exact ((Blk.new w _ _).alloc _).alloc _
 have q1:Blk w1 (R+1) 26 #[.int .i64 0,.int .i64 0,.slice none 0 0,.slice none 0 0,.slice none 0 0]:=by
  rw[hw1];have h:=Blk.new (w.alloc (.cells #[.int .i64 t.st,.int .i64 t.sym,.slice hA t.hood.length hc,.slice vA vn vc,.slice rA rn rc] 26)) 26 #[.int .i64 0,.int .i64 0,.slice none 0 0,.slice none 0 0,.slice none 0 0];rw[World.size_alloc,← hR] at h;exact h.alloc _
 have s1:Sts w1 (some ⟨R+1+1,0,none⟩) headsB:=by
  rw[hw1];have h:=sts_lit ((w.alloc (.cells #[.int .i64 t.st,.int .i64 t.sym,.slice hA t.hood.length hc,.slice vA vn vc,.slice rA rn rc] 26)).alloc (.cells #[.int .i64 0,.int .i64 0,.slice none 0 0,.slice none 0 0,.slice none 0 0] 26)) headsB;rw[World.size_alloc,World.size_alloc,← hR] at h;exact h
 have hwl:(wdsB ws).length=ws.length:=by unfold wdsB;rw[List.length_map]
 obtain⟨res,hres⟩:∃ r,r=headW ⟨0,t,names⟩ (wdsB ws):=⟨_,rfl⟩
 rw[← hres];have hpos:0 < ws.length:=by cases ws with
  | nil=>exact absurd rfl hlen
  | cons _ _=>exact Nat.succ_pos _
 have hS1:=hS.ext (by rw[hR] at hb1;exact hb1);have hH1:=hH.ext (by rw[hR] at hb1;exact hb1);obtain⟨gb,go,e1,-,cw0⟩:=hS1.at_ hpos;subst e1;rw[Nat.add_zero] at cw0;have hg0:=wdsB_getD hpos;obtain⟨u0,hu0⟩:∃ z,z=ws[0]'hpos:=⟨_,rfl⟩
 rw[← hu0] at cw0 hg0;obtain⟨gf,of,ef,-,cf⟩:=s1.at_ (k:=0) (by decide);injection ef with ef
 injection ef with ef1 ef2
 subst ef1 ef2;rw[Nat.zero_add] at cf
 replace cf:w1.cell? ⟨R+1+1,0,none⟩=some (.string ⟨#[115,116,97,116,101,115]⟩):=cf
 have h9:ws.length≤9223372036854775807:=hS.le;have d0:=str_eq u0 [115,116,97,116,101,115];unfold headW at hres;dsimp only at hres;rw[hg0,hwl,show headsW.getD 0 []=[115,116,97,116,101,115] from rfl] at hres;have HH0:=hid hH;have HS0:=hid hS;have HS1:=hid hS1;have HH1:=hid hH1;have HB1:=hid hb1;have HP1:=hid p1;have HQ1:=hid q1;have HR:=hid hR;have HW1:=hid hw1;have HW:=hid hw;clear hS hH hS1 hH1 hb1 p1 q1 s1 hR hw1 hu0 hg0 hwl hlen hw;by_cases h2:ws.length=2
 ·have d2:=(ne2_dec (a:=ws.length)).1 h2;by_cases hx:u0.data.toList=[115,116,97,116,101,115]
  ·have d0':(u0.toList == [115,116,97,116,101,115])=true:=by rw[d0];exact decide_eq_true hx
   clear d0;rw[if_neg (by rintro (h | h);exact h h2;exact h hx)] at hres;have hl1:1 < ws.length:=by omega
   obtain⟨gb',go',e1',-,cw1⟩:=HS1.out.at_ hl1;injection e1' with e1'
   injection e1' with e1' e2'
   subst e1' e2';rw[wdsB_getD hl1] at hres;obtain⟨u1,hu1⟩:∃ z,z=ws[1]'hl1:=⟨_,rfl⟩
   have hxs:=HW.out _ (List.getElem_mem hl1);rw[← hu1] at cw1 hres hxs;clear hu1;rw[if_pos rfl] at hres;have HNUM:=hid (fun W=>rnumber_any u1 W hxs);obtain⟨z,hz⟩:∃ z,z=numW u1.data.toList:=⟨_,rfl⟩
   rw[← hz] at hres HNUM;clear hz hxs hx h2;by_cases hz0:z < 0
   ·rw[if_pos hz0] at hres;have HRES:=hid hres;clear hres;go_enter Tryz.func51,Tryz.ntmps51;go_upto_region 2 with fail
    rw[← HR.out];rw[← HW1.out];go_quiet (fail)
    obtain⟨w2,hw2⟩:∃ W,W=w1.drewN nq:=⟨_,rfl⟩
    rw[← hw2];have HP2:Hid (Blk w2 R 26 #[.int .i64 t.st,.int .i64 t.sym,.slice hA t.hood.length hc,.slice vA vn vc,.slice rA rn rc]):=hid (by rw[hw2];exact HP1.out);have HQ2:Hid (Blk w2 (R+1) 26 #[.int .i64 0,.int .i64 0,.slice none 0 0,.slice none 0 0,.slice none 0 0]):=hid (by rw[hw2];exact HQ1.out);have HB2:Hid (Below R w w2):=hid (by rw[hw2];exact below_drewN HB1.out _);have HS2:Hid (Sts w2 (some ⟨gb,go,none⟩) ws):=hid (by rw[hw2];exact HS1.out);try (have cv1:w2.cell? ⟨gb,go+1,none⟩=some (.string u1):=by rw[hw2];exact cw1)
    clear hw2;have x0:=HP2.out.cell_ 0 (.int .i64 t.st) rfl;have g0:=HP2.out.frozen 0;go_wp2_with (go_at_call 93;refine (HNUM.out _).mono ?_;rintro e w9 ⟨rfl,hw9⟩;have hw8:=hw9.symm;clear hw9;subst hw8;refine Hid.out ?_);refine hid ?_;go_upto_region 6 with fail
    obtain⟨w3,hw3⟩:∃ W,W=w2.setCell ⟨R,0,none⟩ (.int .i64 z):=⟨_,rfl⟩
    rw[← hw3];have HP3:Hid (Blk w3 R 26 #[.int .i64 z,.int .i64 t.sym,.slice hA t.hood.length hc,.slice vA vn vc,.slice rA rn rc]):=hid (by rw[hw3];exact HP2.out.set_ 0 (.int .i64 z));have HQ3:Hid (Blk w3 (R+1) 26 #[.int .i64 0,.int .i64 0,.slice none 0 0,.slice none 0 0,.slice none 0 0]):=hid (by rw[hw3];exact HQ2.out.far (p:=⟨R,0,none⟩) (Nat.succ_ne_self R) _);have HB3:Hid (Below R w w3):=hid (by rw[hw3];exact HB2.out.setCell (p:=⟨R,0,none⟩) (Nat.le_refl R) _);clear hw3 x0 g0;have x0:=HP3.out.cell_ 0 (.int .i64 z) rfl;have x1:=HP3.out.cell_ 1 (.int .i64 t.sym) rfl;have x2:=HP3.out.cell_ 2 (.slice hA t.hood.length hc) rfl;have x3:=HP3.out.cell_ 3 (.slice vA vn vc) rfl;have x4:=HP3.out.cell_ 4 (.slice rA rn rc) rfl;have y0:=HQ3.out.cell_ 0 (.int .i64 0) rfl;have f0:=HQ3.out.frozen 0;have y1:=HQ3.out.cell_ 1 (.int .i64 0) rfl;have f1:=HQ3.out.frozen 1;have y2:=HQ3.out.cell_ 2 (.slice none 0 0) rfl;have f2:=HQ3.out.frozen 2;have y3:=HQ3.out.cell_ 3 (.slice none 0 0) rfl;have f3:=HQ3.out.frozen 3;have y4:=HQ3.out.cell_ 4 (.slice none 0 0) rfl;have f4:=HQ3.out.frozen 4;have HQX:Hid (Blk (set5 w3 (R+1) (.int .i64 z) (.int .i64 t.sym) (.slice hA t.hood.length hc) (.slice vA vn vc) (.slice rA rn rc)) (R+1) 26 #[.int .i64 z,.int .i64 t.sym,.slice hA t.hood.length hc,.slice vA vn vc,.slice rA rn rc]):=hid (set5_blk HQ3.out (.int .i64 z) (.int .i64 t.sym) (.slice hA t.hood.length hc) (.slice vA vn vc) (.slice rA rn rc));have HBX:Hid (Below w.heap.size w (set5 w3 (R+1) (.int .i64 z) (.int .i64 t.sym) (.slice hA t.hood.length hc) (.slice vA vn vc) (.slice rA rn rc))):=hid (by rw[← HR.out];exact set5_below HB3.out (Nat.le_succ R) (.int .i64 z) (.int .i64 t.sym) (.slice hA t.hood.length hc) (.slice vA vn vc) (.slice rA rn rc));have HPX:Hid (Pts (set5 w3 (R+1) (.int .i64 z) (.int .i64 t.sym) (.slice hA t.hood.length hc) (.slice vA vn vc) (.slice rA rn rc)) hA t.hood):=hid (HH0.out.ext HBX.out);go_wp2;refine bodyPost_ret (results_ct Tryz.results51 _ _ (R+1) 26 #[.int .i64 z,.int .i64 t.sym,.slice hA t.hood.length hc,.slice vA vn vc,.slice rA rn rc] (0,0) _ rfl HQX.out Tryz.underlying26 rfl Tryz.sizeTab) rfl ?_;rw[HRES.out];exact⟨z,t.sym,hA,hc,t.hood,rfl,HBX.out,HPX.out,.inl ⟨rfl,rfl⟩,fun h=>by cases h⟩
   ·rw[if_neg hz0] at hres;by_cases hr1:z < 2
    ·rw[if_pos (.inl hr1)] at hres;have HRES:=hid hres;clear hres;go_enter Tryz.func51,Tryz.ntmps51;go_upto_region 2 with fail
     rw[← HR.out];rw[← HW1.out];go_quiet (fail)
     obtain⟨w2,hw2⟩:∃ W,W=w1.drewN nq:=⟨_,rfl⟩
     rw[← hw2];have HP2:Hid (Blk w2 R 26 #[.int .i64 t.st,.int .i64 t.sym,.slice hA t.hood.length hc,.slice vA vn vc,.slice rA rn rc]):=hid (by rw[hw2];exact HP1.out);have HQ2:Hid (Blk w2 (R+1) 26 #[.int .i64 0,.int .i64 0,.slice none 0 0,.slice none 0 0,.slice none 0 0]):=hid (by rw[hw2];exact HQ1.out);have HB2:Hid (Below R w w2):=hid (by rw[hw2];exact below_drewN HB1.out _);have HS2:Hid (Sts w2 (some ⟨gb,go,none⟩) ws):=hid (by rw[hw2];exact HS1.out);try (have cv1:w2.cell? ⟨gb,go+1,none⟩=some (.string u1):=by rw[hw2];exact cw1)
     clear hw2;have x0:=HP2.out.cell_ 0 (.int .i64 t.st) rfl;have g0:=HP2.out.frozen 0;go_wp2_with (go_at_call 93;refine (HNUM.out _).mono ?_;rintro e w9 ⟨rfl,hw9⟩;have hw8:=hw9.symm;clear hw9;subst hw8;refine Hid.out ?_);refine hid ?_;go_upto_region 6 with fail
     obtain⟨w3,hw3⟩:∃ W,W=w2.setCell ⟨R,0,none⟩ (.int .i64 z):=⟨_,rfl⟩
     rw[← hw3];have HP3:Hid (Blk w3 R 26 #[.int .i64 z,.int .i64 t.sym,.slice hA t.hood.length hc,.slice vA vn vc,.slice rA rn rc]):=hid (by rw[hw3];exact HP2.out.set_ 0 (.int .i64 z));have HQ3:Hid (Blk w3 (R+1) 26 #[.int .i64 0,.int .i64 0,.slice none 0 0,.slice none 0 0,.slice none 0 0]):=hid (by rw[hw3];exact HQ2.out.far (p:=⟨R,0,none⟩) (Nat.succ_ne_self R) _);have HB3:Hid (Below R w w3):=hid (by rw[hw3];exact HB2.out.setCell (p:=⟨R,0,none⟩) (Nat.le_refl R) _);clear hw3 x0 g0;have x0:=HP3.out.cell_ 0 (.int .i64 z) rfl;have x1:=HP3.out.cell_ 1 (.int .i64 t.sym) rfl;have x2:=HP3.out.cell_ 2 (.slice hA t.hood.length hc) rfl;have x3:=HP3.out.cell_ 3 (.slice vA vn vc) rfl;have x4:=HP3.out.cell_ 4 (.slice rA rn rc) rfl;have y0:=HQ3.out.cell_ 0 (.int .i64 0) rfl;have f0:=HQ3.out.frozen 0;have y1:=HQ3.out.cell_ 1 (.int .i64 0) rfl;have f1:=HQ3.out.frozen 1;have y2:=HQ3.out.cell_ 2 (.slice none 0 0) rfl;have f2:=HQ3.out.frozen 2;have y3:=HQ3.out.cell_ 3 (.slice none 0 0) rfl;have f3:=HQ3.out.frozen 3;have y4:=HQ3.out.cell_ 4 (.slice none 0 0) rfl;have f4:=HQ3.out.frozen 4;have HQX:Hid (Blk (set5 w3 (R+1) (.int .i64 z) (.int .i64 t.sym) (.slice hA t.hood.length hc) (.slice vA vn vc) (.slice rA rn rc)) (R+1) 26 #[.int .i64 z,.int .i64 t.sym,.slice hA t.hood.length hc,.slice vA vn vc,.slice rA rn rc]):=hid (set5_blk HQ3.out (.int .i64 z) (.int .i64 t.sym) (.slice hA t.hood.length hc) (.slice vA vn vc) (.slice rA rn rc));have HBX:Hid (Below w.heap.size w (set5 w3 (R+1) (.int .i64 z) (.int .i64 t.sym) (.slice hA t.hood.length hc) (.slice vA vn vc) (.slice rA rn rc))):=hid (by rw[← HR.out];exact set5_below HB3.out (Nat.le_succ R) (.int .i64 z) (.int .i64 t.sym) (.slice hA t.hood.length hc) (.slice vA vn vc) (.slice rA rn rc));have HPX:Hid (Pts (set5 w3 (R+1) (.int .i64 z) (.int .i64 t.sym) (.slice hA t.hood.length hc) (.slice vA vn vc) (.slice rA rn rc)) hA t.hood):=hid (HH0.out.ext HBX.out);go_wp2;refine bodyPost_ret (results_ct Tryz.results51 _ _ (R+1) 26 #[.int .i64 z,.int .i64 t.sym,.slice hA t.hood.length hc,.slice vA vn vc,.slice rA rn rc] (0,0) _ rfl HQX.out Tryz.underlying26 rfl Tryz.sizeTab) rfl ?_;rw[HRES.out];exact⟨z,t.sym,hA,hc,t.hood,rfl,HBX.out,HPX.out,.inl ⟨rfl,rfl⟩,fun h=>by cases h⟩
    ·by_cases hr2:8 < z
     ·rw[if_pos (.inr hr2)] at hres;have HRES:=hid hres;clear hres;go_enter Tryz.func51,Tryz.ntmps51;go_upto_region 2 with fail
      rw[← HR.out];rw[← HW1.out];go_quiet (fail)
      obtain⟨w2,hw2⟩:∃ W,W=w1.drewN nq:=⟨_,rfl⟩
      rw[← hw2];have HP2:Hid (Blk w2 R 26 #[.int .i64 t.st,.int .i64 t.sym,.slice hA t.hood.length hc,.slice vA vn vc,.slice rA rn rc]):=hid (by rw[hw2];exact HP1.out);have HQ2:Hid (Blk w2 (R+1) 26 #[.int .i64 0,.int .i64 0,.slice none 0 0,.slice none 0 0,.slice none 0 0]):=hid (by rw[hw2];exact HQ1.out);have HB2:Hid (Below R w w2):=hid (by rw[hw2];exact below_drewN HB1.out _);have HS2:Hid (Sts w2 (some ⟨gb,go,none⟩) ws):=hid (by rw[hw2];exact HS1.out);try (have cv1:w2.cell? ⟨gb,go+1,none⟩=some (.string u1):=by rw[hw2];exact cw1)
      clear hw2;have x0:=HP2.out.cell_ 0 (.int .i64 t.st) rfl;have g0:=HP2.out.frozen 0;go_wp2_with (go_at_call 93;refine (HNUM.out _).mono ?_;rintro e w9 ⟨rfl,hw9⟩;have hw8:=hw9.symm;clear hw9;subst hw8;refine Hid.out ?_);refine hid ?_;go_upto_region 6 with fail
      obtain⟨w3,hw3⟩:∃ W,W=w2.setCell ⟨R,0,none⟩ (.int .i64 z):=⟨_,rfl⟩
      rw[← hw3];have HP3:Hid (Blk w3 R 26 #[.int .i64 z,.int .i64 t.sym,.slice hA t.hood.length hc,.slice vA vn vc,.slice rA rn rc]):=hid (by rw[hw3];exact HP2.out.set_ 0 (.int .i64 z));have HQ3:Hid (Blk w3 (R+1) 26 #[.int .i64 0,.int .i64 0,.slice none 0 0,.slice none 0 0,.slice none 0 0]):=hid (by rw[hw3];exact HQ2.out.far (p:=⟨R,0,none⟩) (Nat.succ_ne_self R) _);have HB3:Hid (Below R w w3):=hid (by rw[hw3];exact HB2.out.setCell (p:=⟨R,0,none⟩) (Nat.le_refl R) _);clear hw3 x0 g0;have x0:=HP3.out.cell_ 0 (.int .i64 z) rfl;have x1:=HP3.out.cell_ 1 (.int .i64 t.sym) rfl;have x2:=HP3.out.cell_ 2 (.slice hA t.hood.length hc) rfl;have x3:=HP3.out.cell_ 3 (.slice vA vn vc) rfl;have x4:=HP3.out.cell_ 4 (.slice rA rn rc) rfl;have y0:=HQ3.out.cell_ 0 (.int .i64 0) rfl;have f0:=HQ3.out.frozen 0;have y1:=HQ3.out.cell_ 1 (.int .i64 0) rfl;have f1:=HQ3.out.frozen 1;have y2:=HQ3.out.cell_ 2 (.slice none 0 0) rfl;have f2:=HQ3.out.frozen 2;have y3:=HQ3.out.cell_ 3 (.slice none 0 0) rfl;have f3:=HQ3.out.frozen 3;have y4:=HQ3.out.cell_ 4 (.slice none 0 0) rfl;have f4:=HQ3.out.frozen 4;have HQX:Hid (Blk (set5 w3 (R+1) (.int .i64 z) (.int .i64 t.sym) (.slice hA t.hood.length hc) (.slice vA vn vc) (.slice rA rn rc)) (R+1) 26 #[.int .i64 z,.int .i64 t.sym,.slice hA t.hood.length hc,.slice vA vn vc,.slice rA rn rc]):=hid (set5_blk HQ3.out (.int .i64 z) (.int .i64 t.sym) (.slice hA t.hood.length hc) (.slice vA vn vc) (.slice rA rn rc));have HBX:Hid (Below w.heap.size w (set5 w3 (R+1) (.int .i64 z) (.int .i64 t.sym) (.slice hA t.hood.length hc) (.slice vA vn vc) (.slice rA rn rc))):=hid (by rw[← HR.out];exact set5_below HB3.out (Nat.le_succ R) (.int .i64 z) (.int .i64 t.sym) (.slice hA t.hood.length hc) (.slice vA vn vc) (.slice rA rn rc));have HPX:Hid (Pts (set5 w3 (R+1) (.int .i64 z) (.int .i64 t.sym) (.slice hA t.hood.length hc) (.slice vA vn vc) (.slice rA rn rc)) hA t.hood):=hid (HH0.out.ext HBX.out);go_wp2;refine bodyPost_ret (results_ct Tryz.results51 _ _ (R+1) 26 #[.int .i64 z,.int .i64 t.sym,.slice hA t.hood.length hc,.slice vA vn vc,.slice rA rn rc] (0,0) _ rfl HQX.out Tryz.underlying26 rfl Tryz.sizeTab) rfl ?_;rw[HRES.out];exact⟨z,t.sym,hA,hc,t.hood,rfl,HBX.out,HPX.out,.inl ⟨rfl,rfl⟩,fun h=>by cases h⟩
     ·rw[if_neg (by rintro (h | h);exact hr1 h;exact hr2 h)] at hres;have HRES:=hid hres;clear hres;go_enter Tryz.func51,Tryz.ntmps51;go_upto_region 2 with fail
      rw[← HR.out];rw[← HW1.out];go_quiet (fail)
      obtain⟨w2,hw2⟩:∃ W,W=w1.drewN nq:=⟨_,rfl⟩
      rw[← hw2];have HP2:Hid (Blk w2 R 26 #[.int .i64 t.st,.int .i64 t.sym,.slice hA t.hood.length hc,.slice vA vn vc,.slice rA rn rc]):=hid (by rw[hw2];exact HP1.out);have HQ2:Hid (Blk w2 (R+1) 26 #[.int .i64 0,.int .i64 0,.slice none 0 0,.slice none 0 0,.slice none 0 0]):=hid (by rw[hw2];exact HQ1.out);have HB2:Hid (Below R w w2):=hid (by rw[hw2];exact below_drewN HB1.out _);have HS2:Hid (Sts w2 (some ⟨gb,go,none⟩) ws):=hid (by rw[hw2];exact HS1.out);try (have cv1:w2.cell? ⟨gb,go+1,none⟩=some (.string u1):=by rw[hw2];exact cw1)
      clear hw2;have x0:=HP2.out.cell_ 0 (.int .i64 t.st) rfl;have g0:=HP2.out.frozen 0;go_wp2_with (go_at_call 93;refine (HNUM.out _).mono ?_;rintro e w9 ⟨rfl,hw9⟩;have hw8:=hw9.symm;clear hw9;subst hw8;refine Hid.out ?_);refine hid ?_;go_upto_region 6 with fail
      obtain⟨w3,hw3⟩:∃ W,W=w2.setCell ⟨R,0,none⟩ (.int .i64 z):=⟨_,rfl⟩
      rw[← hw3];have HP3:Hid (Blk w3 R 26 #[.int .i64 z,.int .i64 t.sym,.slice hA t.hood.length hc,.slice vA vn vc,.slice rA rn rc]):=hid (by rw[hw3];exact HP2.out.set_ 0 (.int .i64 z));have HQ3:Hid (Blk w3 (R+1) 26 #[.int .i64 0,.int .i64 0,.slice none 0 0,.slice none 0 0,.slice none 0 0]):=hid (by rw[hw3];exact HQ2.out.far (p:=⟨R,0,none⟩) (Nat.succ_ne_self R) _);have HB3:Hid (Below R w w3):=hid (by rw[hw3];exact HB2.out.setCell (p:=⟨R,0,none⟩) (Nat.le_refl R) _);clear hw3 x0 g0;have x0:=HP3.out.cell_ 0 (.int .i64 z) rfl;have x1:=HP3.out.cell_ 1 (.int .i64 t.sym) rfl;have x2:=HP3.out.cell_ 2 (.slice hA t.hood.length hc) rfl;have x3:=HP3.out.cell_ 3 (.slice vA vn vc) rfl;have x4:=HP3.out.cell_ 4 (.slice rA rn rc) rfl;have y0:=HQ3.out.cell_ 0 (.int .i64 0) rfl;have f0:=HQ3.out.frozen 0;have y1:=HQ3.out.cell_ 1 (.int .i64 0) rfl;have f1:=HQ3.out.frozen 1;have y2:=HQ3.out.cell_ 2 (.slice none 0 0) rfl;have f2:=HQ3.out.frozen 2;have y3:=HQ3.out.cell_ 3 (.slice none 0 0) rfl;have f3:=HQ3.out.frozen 3;have y4:=HQ3.out.cell_ 4 (.slice none 0 0) rfl;have f4:=HQ3.out.frozen 4;have HQX:Hid (Blk (set5 w3 (R+1) (.int .i64 z) (.int .i64 t.sym) (.slice hA t.hood.length hc) (.slice vA vn vc) (.slice rA rn rc)) (R+1) 26 #[.int .i64 z,.int .i64 t.sym,.slice hA t.hood.length hc,.slice vA vn vc,.slice rA rn rc]):=hid (set5_blk HQ3.out (.int .i64 z) (.int .i64 t.sym) (.slice hA t.hood.length hc) (.slice vA vn vc) (.slice rA rn rc));have HBX:Hid (Below w.heap.size w (set5 w3 (R+1) (.int .i64 z) (.int .i64 t.sym) (.slice hA t.hood.length hc) (.slice vA vn vc) (.slice rA rn rc))):=hid (by rw[← HR.out];exact set5_below HB3.out (Nat.le_succ R) (.int .i64 z) (.int .i64 t.sym) (.slice hA t.hood.length hc) (.slice vA vn vc) (.slice rA rn rc));have HPX:Hid (Pts (set5 w3 (R+1) (.int .i64 z) (.int .i64 t.sym) (.slice hA t.hood.length hc) (.slice vA vn vc) (.slice rA rn rc)) hA t.hood):=hid (HH0.out.ext HBX.out);go_wp2;refine bodyPost_ret (results_ct Tryz.results51 _ _ (R+1) 26 #[.int .i64 z,.int .i64 t.sym,.slice hA t.hood.length hc,.slice vA vn vc,.slice rA rn rc] (0,0) _ rfl HQX.out Tryz.underlying26 rfl Tryz.sizeTab) rfl ?_;rw[HRES.out];exact⟨z,t.sym,hA,hc,t.hood,rfl,HBX.out,HPX.out,.inl ⟨rfl,rfl⟩,fun _=>rfl⟩
  ·have d0':(u0.toList == [115,116,97,116,101,115])=false:=by rw[d0];exact decide_eq_false hx
   clear d0;rw[if_pos (.inr hx)] at hres;have HRES:=hid hres;clear hres hx;go_enter Tryz.func51,Tryz.ntmps51;go_upto_region 2 with fail
   rw[← HR.out];rw[← HW1.out];go_quiet (fail)
   obtain⟨w2,hw2⟩:∃ W,W=w1.drewN nq:=⟨_,rfl⟩
   rw[← hw2];have HP2:Hid (Blk w2 R 26 #[.int .i64 t.st,.int .i64 t.sym,.slice hA t.hood.length hc,.slice vA vn vc,.slice rA rn rc]):=hid (by rw[hw2];exact HP1.out);have HQ2:Hid (Blk w2 (R+1) 26 #[.int .i64 0,.int .i64 0,.slice none 0 0,.slice none 0 0,.slice none 0 0]):=hid (by rw[hw2];exact HQ1.out);have HB2:Hid (Below R w w2):=hid (by rw[hw2];exact below_drewN HB1.out _);have HS2:Hid (Sts w2 (some ⟨gb,go,none⟩) ws):=hid (by rw[hw2];exact HS1.out);try (have cv1:w2.cell? ⟨gb,go+1,none⟩=some (.string u1):=by rw[hw2];exact cw1)
   clear hw2;have x0:=HP2.out.cell_ 0 (.int .i64 t.st) rfl;have x1:=HP2.out.cell_ 1 (.int .i64 t.sym) rfl;have x2:=HP2.out.cell_ 2 (.slice hA t.hood.length hc) rfl;have x3:=HP2.out.cell_ 3 (.slice vA vn vc) rfl;have x4:=HP2.out.cell_ 4 (.slice rA rn rc) rfl;have y0:=HQ2.out.cell_ 0 (.int .i64 0) rfl;have f0:=HQ2.out.frozen 0;have y1:=HQ2.out.cell_ 1 (.int .i64 0) rfl;have f1:=HQ2.out.frozen 1;have y2:=HQ2.out.cell_ 2 (.slice none 0 0) rfl;have f2:=HQ2.out.frozen 2;have y3:=HQ2.out.cell_ 3 (.slice none 0 0) rfl;have f3:=HQ2.out.frozen 3;have y4:=HQ2.out.cell_ 4 (.slice none 0 0) rfl;have f4:=HQ2.out.frozen 4;have HQX:Hid (Blk (set5 w2 (R+1) (.int .i64 t.st) (.int .i64 t.sym) (.slice hA t.hood.length hc) (.slice vA vn vc) (.slice rA rn rc)) (R+1) 26 #[.int .i64 t.st,.int .i64 t.sym,.slice hA t.hood.length hc,.slice vA vn vc,.slice rA rn rc]):=hid (set5_blk HQ2.out (.int .i64 t.st) (.int .i64 t.sym) (.slice hA t.hood.length hc) (.slice vA vn vc) (.slice rA rn rc));have HBX:Hid (Below w.heap.size w (set5 w2 (R+1) (.int .i64 t.st) (.int .i64 t.sym) (.slice hA t.hood.length hc) (.slice vA vn vc) (.slice rA rn rc))):=hid (by rw[← HR.out];exact set5_below HB2.out (Nat.le_succ R) (.int .i64 t.st) (.int .i64 t.sym) (.slice hA t.hood.length hc) (.slice vA vn vc) (.slice rA rn rc));have HPX:Hid (Pts (set5 w2 (R+1) (.int .i64 t.st) (.int .i64 t.sym) (.slice hA t.hood.length hc) (.slice vA vn vc) (.slice rA rn rc)) hA t.hood):=hid (HH0.out.ext HBX.out);go_wp2;refine bodyPost_ret (results_ct Tryz.results51 _ _ (R+1) 26 #[.int .i64 t.st,.int .i64 t.sym,.slice hA t.hood.length hc,.slice vA vn vc,.slice rA rn rc] (0,0) _ rfl HQX.out Tryz.underlying26 rfl Tryz.sizeTab) rfl ?_;rw[HRES.out];exact⟨t.st,t.sym,hA,hc,t.hood,rfl,HBX.out,HPX.out,.inl ⟨rfl,rfl⟩,fun h=>by cases h⟩
 ·have d2:=(ne2_dec (a:=ws.length)).2 h2;rw[if_pos (.inl h2)] at hres;have HRES:=hid hres;clear hres d0;go_enter Tryz.func51,Tryz.ntmps51;go_upto_region 2 with fail
  rw[← HR.out];rw[← HW1.out];go_quiet (fail)
  obtain⟨w2,hw2⟩:∃ W,W=w1.drewN nq:=⟨_,rfl⟩
  rw[← hw2];have HP2:Hid (Blk w2 R 26 #[.int .i64 t.st,.int .i64 t.sym,.slice hA t.hood.length hc,.slice vA vn vc,.slice rA rn rc]):=hid (by rw[hw2];exact HP1.out);have HQ2:Hid (Blk w2 (R+1) 26 #[.int .i64 0,.int .i64 0,.slice none 0 0,.slice none 0 0,.slice none 0 0]):=hid (by rw[hw2];exact HQ1.out);have HB2:Hid (Below R w w2):=hid (by rw[hw2];exact below_drewN HB1.out _);have HS2:Hid (Sts w2 (some ⟨gb,go,none⟩) ws):=hid (by rw[hw2];exact HS1.out);try (have cv1:w2.cell? ⟨gb,go+1,none⟩=some (.string u1):=by rw[hw2];exact cw1)
  clear hw2;have x0:=HP2.out.cell_ 0 (.int .i64 t.st) rfl;have x1:=HP2.out.cell_ 1 (.int .i64 t.sym) rfl;have x2:=HP2.out.cell_ 2 (.slice hA t.hood.length hc) rfl;have x3:=HP2.out.cell_ 3 (.slice vA vn vc) rfl;have x4:=HP2.out.cell_ 4 (.slice rA rn rc) rfl;have y0:=HQ2.out.cell_ 0 (.int .i64 0) rfl;have f0:=HQ2.out.frozen 0;have y1:=HQ2.out.cell_ 1 (.int .i64 0) rfl;have f1:=HQ2.out.frozen 1;have y2:=HQ2.out.cell_ 2 (.slice none 0 0) rfl;have f2:=HQ2.out.frozen 2;have y3:=HQ2.out.cell_ 3 (.slice none 0 0) rfl;have f3:=HQ2.out.frozen 3;have y4:=HQ2.out.cell_ 4 (.slice none 0 0) rfl;have f4:=HQ2.out.frozen 4;have HQX:Hid (Blk (set5 w2 (R+1) (.int .i64 t.st) (.int .i64 t.sym) (.slice hA t.hood.length hc) (.slice vA vn vc) (.slice rA rn rc)) (R+1) 26 #[.int .i64 t.st,.int .i64 t.sym,.slice hA t.hood.length hc,.slice vA vn vc,.slice rA rn rc]):=hid (set5_blk HQ2.out (.int .i64 t.st) (.int .i64 t.sym) (.slice hA t.hood.length hc) (.slice vA vn vc) (.slice rA rn rc));have HBX:Hid (Below w.heap.size w (set5 w2 (R+1) (.int .i64 t.st) (.int .i64 t.sym) (.slice hA t.hood.length hc) (.slice vA vn vc) (.slice rA rn rc))):=hid (by rw[← HR.out];exact set5_below HB2.out (Nat.le_succ R) (.int .i64 t.st) (.int .i64 t.sym) (.slice hA t.hood.length hc) (.slice vA vn vc) (.slice rA rn rc));have HPX:Hid (Pts (set5 w2 (R+1) (.int .i64 t.st) (.int .i64 t.sym) (.slice hA t.hood.length hc) (.slice vA vn vc) (.slice rA rn rc)) hA t.hood):=hid (HH0.out.ext HBX.out);go_wp2;refine bodyPost_ret (results_ct Tryz.results51 _ _ (R+1) 26 #[.int .i64 t.st,.int .i64 t.sym,.slice hA t.hood.length hc,.slice vA vn vc,.slice rA rn rc] (0,0) _ rfl HQX.out Tryz.underlying26 rfl Tryz.sizeTab) rfl ?_;rw[HRES.out];exact⟨t.st,t.sym,hA,hc,t.hood,rfl,HBX.out,HPX.out,.inl ⟨rfl,rfl⟩,fun h=>by cases h⟩
end Go.Proofs.YtcmbdhopmncmnaaGreatDoor
