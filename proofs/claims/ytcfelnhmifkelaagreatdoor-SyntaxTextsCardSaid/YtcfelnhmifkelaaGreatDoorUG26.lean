/-
  texts Byt56 Rde56 Rns56 AwkP56 Txt56 AwkM56 Awake56 Laid Open: parts of the proof; conditions stand with each theorem.
-/
import Derived.Test.YtcfelnhmifkelaaGreatDoorUG0
import Derived.Test.YtcfelnhmifkelaaGreatDoorProg
import Derived.Laws.IdiomStrings
import Derived.Test.YtcfelnhmifkelaaGreatDoorUG5
import Derived.Test.YtcfelnhmifkelaaGreatDoorUG21
import Derived.Test.YtcfelnhmifkelaaGreatDoorUG6
import Derived.Test.YtcfelnhmifkelaaGreatDoorUG12
import Derived.KernelRfl
import Derived.Test.YtcfelnhmifkelaaGreatDoorULine56
import Derived.Test.YtcfelnhmifkelaaGreatDoorUG24
import Derived.Test.YtcfelnhmifkelaaGreatDoorRows
import Derived.ProofKit
import Derived.OpenShut
import Derived.LaidMore
import Derived.Lay
import Derived.Deep.DeepHandedRow
import Derived.Lib.LaidTab
import Derived.Stop.LaidErr
import Derived.WalkKit
import Derived.HandedShaped
import Derived.Shelf.Vars
import Derived.Deep.SlicePairs
import Derived.MakeChecks
import Derived.Below
import Derived.ChangeSame
namespace Go.Proofs.YtcfelnhmifkelaaGreatDoor
open Go.RowKit
set_option maxRecDepth 100000
set_option linter.unusedVariables false
set_option linter.unusedSimpArgs false

theorem Tryz.infoByte2:(Tryz.prog.info? 5).map (fun i=>(i.zero,i.size,i.bytes))=some (some (.int .u8 0),1,1):=by kernel_rfl
def OwnB (w:World)(base:Nat)(v:Value)(l:List UInt8):Prop:=w.ownsRow base 5 1 v l.length (Lib.byteCells l)
theorem OwnB.nil (w:World)(base:Nat):OwnB w base (.slice none 0 0) []:=World.ownsRow_nil _ _ _ _
theorem OwnB.form {w:World}{base:Nat}{v:Value}{l:List UInt8}(h:OwnB w base v l):∃ A c,v=.slice A l.length c:=by
 obtain⟨A,c,h1,-,-⟩:=own_form h;exact⟨A,c,h1⟩
theorem wpList_pushB {wr:World}{ops:Array Oper}{rest:List Oper}{o:Oper}{a:Act}{Q:Exit→Act→World→Prop}(hgd:o.guard=none)(s x:Operand)
  (ho:o.op=.call { callee:=.builtin .append,args:=#[s,x],argTypes:=#[95,95] })
  (base:Nat) (v:Value) (l:List UInt8) (hs:a.eval s=v) (hown:OwnB wr base v l)
  (c:UInt8) (z:Int) (hz:z=(c.toNat:Int)) (hx:a.eval x=.slice (some ⟨wr.heap.size,0,none⟩) 1 1)
  (hn:l.length < 4294967296) (hbase:base≤wr.heap.size)
  (h:∀ v' w',OwnB w' base v' (l ++ [c])→Below base wr w'→(∀ g t' cs,5≠t'→Blk wr g t' cs→Blk w' g t' cs)→wpList Tryz.prog ops Q rest (a.put o.dst v') w') :
  wpList Tryz.prog ops Q (o :: rest) a (wr.alloc (.cells #[.int .u8 z] 5)):=by
 subst hz;obtain⟨i0,hi0,hz0,hz1,hz2⟩:=info_parts Tryz.infoByte2;refine wpList_append_own _ hgd s x _ ho base 5 i0 _ 1 1 Tryz.underlying95 hi0 hz0 hz1 hz2 rfl (by decide) v l.length (Lib.byteCells l) hs (World.ownsRow.alloc hown _) ⟨wr.heap.size,0,none⟩ 1 1 [.int .u8 c.toNat] hx rfl ?_ (by simp[Value.oneCell']) (by unfold maxLen;omega) (by omega) (by simp;omega) ?_
 ·intro j u hu;rw[addr_add];have:(wr.alloc (.cells #[.int .u8 c.toNat] 5)).cell? ⟨wr.heap.size,0+j,none⟩=(#[.int .u8 c.toNat]:Array Value)[0+j]?:=cell_of_row _ _ _ _ _ _ (heap_alloc_new wr _);rw[this];simpa using hu
 ·intro v' w' hown' hg _;have hrow:∀ k,v.ownBlock=some k→base≤k∧∃ cur,wr.heap[k]?=some (.cells cur 5 (0,0)):=by
   intro k hk;rcases hown.2 with ⟨rfl,_⟩ | ⟨g,cap,cur,rfl,h4,h5,_⟩
   ·simp[Value.ownBlock] at hk
   ·simp[Value.ownBlock] at hk;subst hk;exact⟨h4,cur,h5⟩
  refine h v' w' (by unfold OwnB Lib.byteCells;rw[List.length_append,List.map_append];exact hown') ?_ ?_
  ·exact ((Below.refl base wr).alloc hbase _).grown hg (by simp;omega) (fun k hk=>(hrow k hk).1)
  ·intro g t' cs hne hb;exact (hb.alloc _).grown hg (fun e'=>by
    obtain⟨-,cur,hc⟩:=hrow g e'.symm;unfold Blk at hb;rw[hb] at hc;injection hc with hc
    injection hc with _ hc
    exact hne hc.symm)
theorem back_nil (w:World)(c:Nat):(convert 95 9 (.slice none 0 c)).run Tryz.prog w=.ok (.string ⟨#[]⟩) w:=by
 rw[run_convert_bytes_string w _ _ 5 none 0 c Tryz.underlying95 Tryz.underlying5 Tryz.underlying9];simp[Conv.bytesToString];rfl
theorem back_any {w:World}{base:Nat}{A:Option Addr}{c:Nat}{l:List UInt8}(h:OwnB w base (.slice A l.length c) l) :
  (convert 95 9 (.slice A l.length c)).run Tryz.prog w=.ok (.string ⟨l.toArray⟩) w:=by
 rcases h.2 with ⟨h1,h2⟩ | ⟨g,cap,cur,hv,-⟩
 ·obtain rfl:=List.eq_nil_of_length_eq_zero h2;injection h1 with h1 _ h3
  subst h1 h3;exact back_nil w 0
 ·injection hv with h1 h2 h3
  subst h1;refine run_convert_bytes_back w _ _ 5 ⟨g,0,none⟩ c l Tryz.underlying95 Tryz.underlying5 Tryz.underlying9 fun j hj=>?_;have h4:=World.ownsRow.cells h rfl j (.int .u8 (l[j].toNat:Int)) (by simp[Lib.byteCells,hj]);simpa using h4
end Go.Proofs.YtcfelnhmifkelaaGreatDoor
namespace Go.Proofs.YtcfelnhmifkelaaGreatDoor
open Lib(hid)
open Go.RowKit
set_option maxRecDepth 100000
set_option linter.unusedVariables false
set_option linter.unusedSimpArgs false
def preD (m:Nat):List UInt8:=if m < 10 then [] else Lib.decDigits (m / 10)
theorem dec_pre (m:Nat):Lib.decDigits m=preD m ++ [UInt8.ofNat (48+m % 10)]:=by
 unfold preD;by_cases h:m < 10
 ·rw[if_pos h,dec_small h,Nat.mod_eq_of_lt h];rfl
 ·rw[if_neg h,dec_big h,dec_small (n:=m % 10) (by omega)]
theorem preD_step {m:Nat}(h:¬ m < 10):preD m=preD (m / 10) ++ [UInt8.ofNat (48+m / 10 % 10)]:=by
 conv=>lhs;unfold preD
 rw[if_neg h,dec_pre]
theorem dig_nat {d:Nat}(h:d < 10):(UInt8.ofNat (48+d)).toNat=48+d:=by
 simp[UInt8.ofNat,UInt8.toNat];omega
theorem conv_one (w:World)(b:UInt8)(z:Int)(hz:z=(b.toNat:Int)):(convert 95 9 (.slice (some ⟨w.heap.size,0,none⟩) 1 1)).run Tryz.prog (w.alloc (.cells #[.int .u8 z] 5))=.ok (.string ⟨#[b]⟩) (w.alloc (.cells #[.int .u8 z] 5)):=by
 subst hz;have h:=World.ownsRow_lit (base:=w.heap.size) (e:=5) (size:=1) w #[.int .u8 b.toNat] 1 (Nat.le_refl _) (by decide) (by simp);exact back_any (l:=[b]) (base:=w.heap.size) (by unfold OwnB;exact h)
set_option maxHeartbeats 8000000 in
theorem rdec_nat (n:Nat)(w:World)(hn:n≤9223372036854775807):Calls Tryz.prog 40 #[.int .i64 n] w fun e w'=>e=.returned (.string ⟨(Lib.decDigits n).toArray⟩)∧Below w.heap.size w w':=by
 obtain⟨R,hR⟩:∃ R,R=Lib.decDigits n:=⟨_,rfl⟩
 rw[← hR];have h0:=dec_pre n;rw[← hR] at h0;have HR:=hid h0;have HL:Hid (R.length≤20):=hid (by rw[hR];exact dec_len1 (k:=20) (by decide) n (by omega));have HNN:=hid hn;have d0:decide ((n:Int) < 0)=false:=decide_eq_false (by omega);have hn0:¬ ((n:Int) < 0):=by omega
 obtain⟨b,hb⟩:∃ b,b=UInt8.ofNat (48+n % 10):=⟨_,rfl⟩
 have hc:=conv_one w b (48+(n:Int) % 10) (by rw[hb,dig_nat (by omega)];omega);rw[← hb] at HR;clear hR h0 hn hb;go_enter Tryz.func40,Tryz.ntmps40;go_upto_region 4 with fail
 have HB0:=hid (below_new w (.cells #[.int .u8 (48+(n:Int) % 10)] 5));obtain⟨w1,hw1⟩:∃ W,w.alloc (.cells #[.int .u8 (48+(n:Int) % 10)] 5)=W:=⟨_,rfl⟩
 rw[hw1] at HB0 ⊢;clear hc hw1 d0 hn0;go_loopw [0,3] (fun nv sv wr=>∃ (m:Nat) (l:List UInt8),nv=.int .i64 (m:Int)∧sv=.string ⟨l.toArray⟩∧Hid (R=preD m ++ l)∧Hid (m≤9223372036854775807)∧Hid (Below w.heap.size w wr)) (fun nv _ _=>(intOf nv).toNat)
 case atStart=>exact⟨n,[b],rfl,rfl,HR,HNN,HB0⟩
 case round=>
  clear HR HNN HB0;obtain⟨m,l,rfl,rfl,HR,HM,HB⟩:=hrel;by_cases h10:m < 10
  ·have dk:decide ((10:Int)≤(m:Int))=false:=decide_eq_false (by omega);have hk:¬ ((10:Int)≤(m:Int)):=by omega
   have hk2:¬ 10≤m:=by omega
   have HN:Hid (R=l):=hid (by rw[HR.out];unfold preD;rw[if_pos h10];rfl);clear h10;go_wp2;go_ret;exact⟨by rw[HN.out];rfl,HB.out⟩
  ·have dk:decide ((10:Int)≤(m:Int))=true:=decide_eq_true (by omega);have hk:(10:Int)≤(m:Int):=by omega
   have hk2:10≤m:=by omega
   obtain⟨q,hq⟩:∃ q,q=m / 10:=⟨_,rfl⟩
   obtain⟨b,hb⟩:∃ b,b=UInt8.ofNat (48+q % 10):=⟨_,rfl⟩
   have hwq:wrap64 ((m:Int) / 10)=(q:Int):=by have:=HM.out;unfold wrap64;omega
   have hc:=conv_one wr b (48+(q:Int) % 10) (by rw[hb,dig_nat (by omega)];omega);have HN:Hid (R=preD q ++ ([b] ++ l)):=hid (by rw[HR.out,preD_step h10,List.append_assoc,hb,hq]);have HLL:Hid (¬ 9223372036854775807 < 1+l.length):=hid (by
    have h1:=congrArg List.length HN.out;rw[List.length_append,List.length_append] at h1;have h2:=HL.out;omega)
   have HQ:Hid (q < m):=hid (by omega);have HMQ:Hid (q≤9223372036854775807):=hid (by have:=HM.out;omega);have HB2:=hid (HB.out.alloc HB.out.size (.cells #[.int .u8 (48+(q:Int) % 10)] 5));have HAP:Hid ((⟨#[b]⟩ ++ ⟨l.toArray⟩:ByteArray)=⟨([b] ++ l).toArray⟩):=hid (bytes_app [b] l);clear h10 HR hb hq hk2;go_wp2;refine⟨⟨q,[b] ++ l,rfl,congrArg Value.string HAP.out,HN,HMQ,HB2⟩,?_⟩;have:=HQ.out;simp only[intOf,Int.toNat_natCast];exact this
theorem rdec56_any (n:Int)(h0:-9223372036854775807≤n)(h1:n≤9223372036854775807)(w:World):Calls Tryz.prog 40 #[.int .i64 n] w fun e w'=>e=.returned (.string ⟨(Lib.itoa n).toArray⟩)∧Below w.heap.size w w':=by
 by_cases hn:n < 0
 ·obtain⟨k,hk⟩:∃ k:Nat,-n=(k:Int):=⟨(-n).toNat,by omega⟩
  have hit:Lib.itoa n=45 :: Lib.decDigits k:=by
   unfold Lib.itoa;rw[if_pos hn,show n.natAbs=k by omega]
  have HIT:=hid hit;have HC:=hid (rdec_nat k w (by omega));have hneg:wrap64 (-n)=(k:Int):=by rw[hk];unfold wrap64;omega
  have d0:decide (n < 0)=true:=decide_eq_true hn;have hll:¬ 9223372036854775807 < 1+(Lib.decDigits k).length:=by have:=dec_len1 (k:=20) (by decide) k (by omega);omega
  have HAP:Hid ((⟨#[45]⟩ ++ ⟨(Lib.decDigits k).toArray⟩:ByteArray)=⟨([45] ++ Lib.decDigits k).toArray⟩):=hid (bytes_app [45] _);clear hit hk h0 h1;go_enter Tryz.func40,Tryz.ntmps40;go_wp2_with (go_at_call 40;refine HC.out.mono ?_;intro e w1 hx;obtain⟨rfl,hb1⟩:=hx;refine Hid.out ?_);refine hid ?_;have HB1:=hid hb1;clear hb1;go_wp2;go_ret;exact⟨by rw[HIT.out];exact congrArg (fun s=>Ending.returned (Value.string s)) HAP.out,HB1.out⟩
 ·obtain⟨k,rfl⟩:∃ k:Nat,n=(k:Int):=⟨n.toNat,by omega⟩
  rw[itoa_nat];exact rdec_nat k w (by omega)
def restR (b:Bool)(l:List UInt8):List UInt8:=if b then runW l else l.filter (fun c=>c != 10)
theorem restR_nil (b:Bool):restR b []=[]:=by cases b <;> rfl
theorem restR_feed (b:Bool)(l:List UInt8):restR b (10 :: l)=restR false l:=by cases b <;> rfl
theorem restR_skip {a:UInt8}(h:a≠10)(l:List UInt8):restR true (a :: l)=restR true l:=by
 show runW (a :: l)=runW l;unfold runW afterLine lineOf;rw[List.takeWhile_cons,if_pos (by simpa using h)];rfl
theorem restR_keep {a:UInt8}(h:a≠10)(l:List UInt8):restR false (a :: l)=a :: restR false l:=by
 show (a :: l).filter (fun c=>c != 10)=a :: l.filter (fun c=>c != 10);rw[List.filter_cons_of_pos (by simpa using h)]
def runs56R (ps:List Cel):List UInt8 × Int:=if (textL ps [82]).2≠0 then ([],(textL ps [82]).2) else (runW (textL ps [82]).1,0)
set_option maxHeartbeats 8000000 in
theorem rruns56_any (A:Option Addr)(c:Nat)(ps:List Cel)(w:World)(ha:Cls w A ps) :
  Calls Tryz.prog 38 #[.slice A ps.length c] w fun e w'=>e=.returned (.tuple #[.string ⟨(runs56R ps).1.toArray⟩,.int .i64 (runs56R ps).2])∧Below w.heap.size w w':=by
 have hC:=rText_any A c ps [82] w ha (by decide);obtain⟨r,hr⟩:∃ r,r=runs56R ps:=⟨_,rfl⟩
 rw[← hr];unfold runs56R at hr;have hlen:=text_len56 (ps:=ps) (rule:=[82]);obtain⟨⟨tl,te⟩,ht⟩:∃ t,t=textL ps [82]:=⟨_,rfl⟩
 rw[← ht] at hC hr hlen;dsimp only at hC hr hlen;have HR:=hid hr;have HC:=hid hC;have HL:=hid hlen;clear hr hC ha ht hlen;go_enter Tryz.func38,Tryz.ntmps38;go_wp2_with (go_at_call 85;refine HC.out.mono ?_;intro e w1 hx;obtain⟨rfl,hb1⟩:=hx;refine Hid.out ?_);refine hid ?_;have HB1:=hid hb1;clear hb1 HC;by_cases h0:te=0
 ·subst h0;have HRR:Hid (r=(runW tl,0)):=hid (by rw[HR.out,if_neg (by simp)]);have HLT:Hid (tl.length≤65536):=hid (HL.out rfl);clear HL HR;obtain⟨s,hs⟩:∃ s:ByteArray,s=⟨tl.toArray⟩:=⟨_,rfl⟩
  rw[← hs];have hl:tl=s.data.toList:=by rw[hs]
  have hgb:∀ j (h:j < s.size) (h':j < tl.length),tl[j]=s[j]:=by subst hl;exact get_byte9 s
  have hlen:tl.length=s.size:=by rw[hl];rfl
  have HG:=hid (And.intro hlen hgb);clear hl hgb hlen hs;go_wp2;go_loopw [6,7,8] (fun gv bv iv wr=>∃ (k:Nat) (b:Bool) (g:List UInt8),k≤s.size∧iv=.int .i64 (k:Int)∧bv=.bool b∧Hid (OwnB wr w1.heap.size gv g)∧Hid (Below w1.heap.size w1 wr)∧Hid (runW tl=g ++ restR b (tl.drop k))∧Hid (g.length≤k)) (fun _ _ iv _=>s.size - (intOf iv).toNat)
  case atStart=>exact⟨0,true,[],Nat.zero_le _,rfl,rfl,hid (OwnB.nil _ _),hid (Below.refl _ _),hid rfl,hid (Nat.le_refl _)⟩
  case round=>
   obtain⟨k,b,g,hk,rfl,rfl,HO,HB,HT,HN⟩:=hrel;by_cases hlt:k < s.size
   ·have hlt':k < tl.length:=by rw[HG.out.1];exact hlt
    have hdr:tl.drop k=tl[k] :: tl.drop (k+1):=List.drop_eq_getElem_cons hlt';rw[HG.out.2 k hlt hlt'] at hdr;have hwk:wrap64 ((k:Int)+1)=(k:Int)+1:=by have:=HLT.out;unfold wrap64;omega
    have HDR:=hid hdr;clear hdr;by_cases h10:s[k]=10
    ·have e1:((s[k].toNat:Int) == 10)=true:=by rw[h10];rfl
     have HN2:Hid (runW tl=g ++ restR false (tl.drop (k+1))):=hid (by rw[HT.out,HDR.out,h10,restR_feed]);have HK:=hid hlt;clear h10 hlt';go_wp2;go_roundw
     case rel=>exact⟨k+1,false,g,HK.out,by go_num,rfl,HO,HB,HN2,hid (Nat.le_succ_of_le HN.out)⟩
     case measure=>rw[hwk];simp[intOf];have:=HK.out;omega
    ·have e1:((s[k].toNat:Int) == 10)=false:=by
      refine beq_false_of_ne fun h=>h10 ?_;have h2:s[k].toNat=10:=by exact_mod_cast h
      exact UInt8.toNat_inj.1 h2
     cases b with
     | true=>
      have HN2:Hid (runW tl=g ++ restR true (tl.drop (k+1))):=hid (by rw[HT.out,HDR.out,restR_skip h10]);have HK:=hid hlt;clear h10 hlt';go_wp2;go_roundw
      case rel=>exact⟨k+1,true,g,HK.out,by go_num,rfl,HO,HB,HN2,hid (Nat.le_succ_of_le HN.out)⟩
      case measure=>rw[hwk];simp[intOf];have:=HK.out;omega
     | false=>
      have HN2:Hid (runW tl=(g ++ [s[k]]) ++ restR false (tl.drop (k+1))):=hid (by rw[HT.out,HDR.out,restR_keep h10];simp);have HK:=hid hlt;clear h10 hlt';have hgl:g.length < 4294967296:=by have:=HN.out;have:=HLT.out;have:=HG.out.1;have:=HK.out;omega
      have HGL:=hid hgl;clear hgl;go_wp2_with (at_builtin;refine wpList_pushB rfl _ _ rfl w1.heap.size _ g rfl HO.out (s[k]'hlt) _ rfl rfl HGL.out HB.out.size ?_);intro v' w' ho hb _;have HO2:=hid ho;have HB2:=hid (HB.out.trans hb);clear ho hb;go_wp2;go_roundw
      case rel=>exact⟨k+1,false,_,HK.out,by go_num,rfl,HO2,HB2,HN2,hid (by rw[List.length_append];have:=HN.out;simp;omega)⟩
      case measure=>rw[hwk];simp[intOf];have:=HK.out;omega
   ·obtain rfl:k=s.size:=by omega
    have HE:Hid (runW tl=g):=hid (by rw[HT.out,← HG.out.1,List.drop_length,restR_nil,List.append_nil]);obtain⟨GA,gc,rfl⟩:=HO.out.form;have hback:=back_any HO.out;have hwk:True:=trivial;go_wp2;go_ret2;rw[HRR.out];rw[HE.out];exact⟨rfl,HB1.out.trans (HB.out.mono HB1.out.size)⟩
 ·have dk:((te:Int) != 0)=true:=by simpa using h0
  have HRR:Hid (r=([],te)):=hid (by rw[HR.out,if_pos h0]);clear HL HR;go_wp2;go_ret2;rw[HRR.out];exact⟨rfl,HB1.out⟩
end Go.Proofs.YtcfelnhmifkelaaGreatDoor
namespace Go.Proofs.YtcfelnhmifkelaaGreatDoor
open Go.RowKit
set_option maxRecDepth 100000
set_option linter.unusedVariables false
set_option linter.unusedSimpArgs false
def exA:Cmd:=⟨3,-3,4,2,0,[103],[],0,0,0⟩
def exB:Cmd:=⟨2,0,0,0,0,[103],[⟨1,0,1⟩,⟨2,1,1⟩,⟨0,2,1⟩,⟨1,2,1⟩,⟨2,2,1⟩],0,0,0⟩
theorem exP1:scrP [112,117,116,32,103,32,97,116,32,45,51,32,52,32,116,117,114,110,32,50,32,35,32,116,119,111,32,116,117,114,110,115]=([exA],0,0):=by kernel_rfl
theorem exP2:scrP [99,101,108,108,115,32,103,32,50,98,111,36,51,98,111,36,98,51,111,33]=([exB],0,0):=by kernel_rfl
theorem exP3:scrP [112,114,105,110,116,10,10,112,114,105,110,116,10,102,111,111]=([],4,15):=by kernel_rfl
theorem exP4:scrP [114,117,110,32,45,49]=([],1,5):=by kernel_rfl
theorem exP5:scrP [114,117,110,32,48,49]=([],1,15):=by kernel_rfl
theorem exP6:scrP [115,97,118,101,32,49,97]=([],1,7):=by kernel_rfl
theorem exA_right:rightP exA=true:=by decide
theorem it_2:Lib.itoa 2=[50]:=by rw[show (2:Int)=((2:Nat):Int) from rfl,itoa_nat,dec_small (by decide)];rfl
theorem it_3:Lib.itoa 3=[51]:=by rw[show (3:Int)=((3:Nat):Int) from rfl,itoa_nat,dec_small (by decide)];rfl
theorem it_4:Lib.itoa 4=[52]:=by rw[show (4:Int)=((4:Nat):Int) from rfl,itoa_nat,dec_small (by decide)];rfl
theorem it_n3:Lib.itoa (-3)=[45,51]:=by
 unfold Lib.itoa;rw[if_pos (by decide),show (-3:Int).natAbs=3 from rfl,dec_small (by decide)];rfl
theorem exB_runs:textL exB.cells [82]=([120,32,61,32,51,44,32,121,32,61,32,51,44,32,114,117,108,101,32,61,32,82,10,98,111,36,50,98,111,36,51,111,33,10],0):=by
 have hb:(boxC exB.cells).1=⟨0,0,3,3⟩:=by decide
 have hf:fullT exB.cells [82]=[120,32,61,32,51,44,32,121,32,61,32,51,44,32,114,117,108,101,32,61,32,82,10,98,111,36,50,98,111,36,51,111,33,10]:=by
  have hr:runsL exB.cells=[(1,0),(1,1),(1,-1),(2,0),(1,1),(1,-1),(3,1)]:=by decide
  have ht:topC exB.cells=1:=by decide
  unfold fullT itemsL;rw[hb,hr,ht];unfold headL;dsimp only [List.map];unfold itemC;dsimp only;rw[it_3,it_2];decide
 unfold textL;rw[hb,hf,if_neg (by decide),if_neg (by decide),if_neg (by decide),if_neg (by decide)]
theorem exB_line:lineP exB=([99,101,108,108,115,32,103,32,98,111,36,50,98,111,36,51,111,33],0):=by
 have hl:lineTo [slotR [78],slotR [67]] exB [[99,101,108,108,115]]=([[99,101,108,108,115],[103],[98,111,36,50,98,111,36,51,111,33]],0):=by
  rw[lineTo,if_neg (by decide),if_pos (by decide),lineTo,if_neg (by decide),if_neg (by decide),if_pos (by decide),exB_runs,if_neg (by decide),lineTo];decide
 have hk:kindF exB.kind=some (formK 2):=rfl;unfold lineP;rw[if_neg (by decide),hk];show (if (lineTo [slotR [78],slotR [67]] exB [[99,101,108,108,115]]).2≠0 then _ else (joinW (lineTo [slotR [78],slotR [67]] exB [[99,101,108,108,115]]).1,(0:Int)))=_;rw[hl];decide
theorem exA_line:lineP exA=([112,117,116,32,103,32,97,116,32,45,51,32,52,32,116,117,114,110,32,50],0):=by
 have hl:lineTo [slotR [78],slotR [97,116],slotR [88],slotR [89],slotR [116,117,114,110],slotR [75]] exA [[112,117,116]]=([[112,117,116],[103],[97,116],[45,51],[52],[116,117,114,110],[50]],0):=by
  rw[lineTo,if_neg (by decide),if_pos (by decide),lineTo,if_pos (by decide),lineTo,if_neg (by decide),if_neg (by decide),if_neg (by decide),if_pos (by decide),lineTo,if_neg (by decide),if_neg (by decide),if_neg (by decide),if_pos (by decide),lineTo,if_pos (by decide),lineTo,if_neg (by decide),if_neg (by decide),if_neg (by decide),if_pos (by decide),lineTo,
   show exA.get (slotR [88]).fld = -3 from rfl,show exA.get (slotR [89]).fld=4 from rfl,show exA.get (slotR [75]).fld=2 from rfl,it_n3,it_4,it_2]
  decide
 have hk:kindF exA.kind=some (formK 3):=rfl;unfold lineP;rw[if_neg (by decide),hk];show (if (lineTo [slotR [78],slotR [97,116],slotR [88],slotR [89],slotR [116,117,114,110],slotR [75]] exA [[112,117,116]]).2≠0 then _ else (joinW (lineTo [slotR [78],slotR [97,116],slotR [88],slotR [89],slotR [116,117,114,110],slotR [75]] exA [[112,117,116]]).1,(0:Int)))=_;rw[hl];decide
theorem exA_text:textP [exA]=([112,117,116,32,103,32,97,116,32,45,51,32,52,32,116,117,114,110,32,50,10],0):=by
 unfold textP errT catT errT catT;rw[exA_line];decide
end Go.Proofs.YtcfelnhmifkelaaGreatDoor
namespace Go.Proofs.YtcfelnhmifkelaaGreatDoor
open Lib(hid)
open Go.RowKit
set_option maxRecDepth 100000
set_option linter.unusedVariables false
set_option linter.unusedSimpArgs false
set_option maxHeartbeats 8000000 in
theorem text56_any (v:Value)(l:List Cmd)(w:World)(hg:Glob w)(he:ErrV w)(hl:CmsA w v l)(hn:∀ c ∈ l,c.name.length≤65536) :
  Calls Tryz.prog 19 #[v] w fun e w'=>e=.returned (.tuple #[.string ⟨(textP l).1.toArray⟩,.int .i64 (textP l).2])∧Below w.heap.size w w':=by
 obtain⟨LA,lc,rfl⟩:=hl.form;have hle:=hl.le;obtain⟨r,hr⟩:∃ r,r=textP l:=⟨_,rfl⟩
 rw[← hr];have HR:=hid hr;have HG:=hid hg;have HE:=hid he;have HL:=hid hl;have HN:=hid hn;clear hr hg he hl hn;go_enter Tryz.func19,Tryz.ntmps19;by_cases h2:200 < l.length
 ·have d2:decide ((200:Int) < (l.length:Int))=true:=decide_eq_true (by omega);have HRE:Hid (r=([],6)):=hid (by rw[HR.out];unfold textP;rw[if_pos h2]);clear hle;go_wp2;go_ret2;exact⟨ret_se HRE.out,Below.refl _ _⟩
 have d2:decide ((200:Int) < (l.length:Int))=false:=decide_eq_false (by omega);have HL2:Hid (l.length≤200):=hid (by omega);clear hle;go_wp2;clear d2 h2;go_loopw [4,5,15] (fun ov gv iv wr=>∃ (k:Nat) (ob:ByteArray) (lg:Bool),k≤l.length∧ov=.string ob∧gv=.bool lg∧iv=.int .i64 k∧Hid (Below w.heap.size w wr)∧Hid (lg=decide (65536 < (catT (l.take k)).length))∧Hid (lg=false→ob.data.toList=catT (l.take k))∧Hid (errT (l.drop k)=errT l)) (fun _ _ iv _=>l.length - (intOf iv).toNat)
 case atStart=>exact⟨0,⟨#[]⟩,false,Nat.zero_le _,rfl,rfl,rfl,hid (Below.refl _ _),hid rfl,hid (fun _=>rfl),hid rfl⟩
 case round=>
  obtain⟨k,ob,lg,hk,rfl,rfl,rfl,HBq,HLG,HOB,HT⟩:=hrel;have hwk:wrap64 ((k:Int)+1)=(k:Int)+1:=by have:=HL2.out;unfold wrap64;omega
  by_cases hlt:k < l.length
  ·obtain⟨lb,lo,lcc,A,n,e1,-,hcl,y0,y1,y2,y3,y4,y5,y6,y7,y8,y9⟩:=(HL.out.ext HBq.out).at_ hlt;injection e1 with e1 e2 e3
   subst e1 e3;have hat:=errT_drop hlt;have hsn:=catT_snoc hlt;have hcm:(catT (l.take (k+1))).length≤_:=catT_mono (Nat.succ_le_of_lt hlt);have hcn:=HN.out _ (List.getElem_mem hlt);obtain⟨c,hc⟩:∃ c,c=l[k]:=⟨_,rfl⟩
   rw[← hc] at hat hsn hcn hcl y0 y1 y2 y3 y4 y5 y6 y7 y8 y9;have HLT:=hid hlt;have HAT:=hid hat;have HSN:=hid hsn;obtain⟨w6,hw6⟩:∃ W,W=wr.alloc (.cells #[.int .i64 c.kind,.int .i64 c.x,.int .i64 c.y,.int .i64 c.n,.int .i64 c.m,.string (nmV c),.slice A c.cells.length n,.int .i64 c.p,.int .i64 c.dx,.int .i64 c.dy] 34):=⟨_,rfl⟩
   obtain⟨p6,hp6⟩:∃ p,p=wr.heap.size:=⟨_,rfl⟩
   have hk6:Blk w6 p6 34 #[.int .i64 c.kind,.int .i64 c.x,.int .i64 c.y,.int .i64 c.n,.int .i64 c.m,.string (nmV c),.slice A c.cells.length n,.int .i64 c.p,.int .i64 c.dx,.int .i64 c.dy]:=by rw[hw6,hp6];exact Blk.new _ _ _
   have hb6:Below wr.heap.size wr w6:=by rw[hw6];exact below_new _ _
   have HB6:=hid (HBq.out.trans (hb6.mono HBq.out.size));have x0:w6.cell? ⟨p6,0,none⟩=some (.int .i64 c.kind):=hk6.cell_ 0 _ rfl;have x1:w6.cell? ⟨p6,1,none⟩=some (.int .i64 c.x):=hk6.cell_ 1 _ rfl;have x2:w6.cell? ⟨p6,2,none⟩=some (.int .i64 c.y):=hk6.cell_ 2 _ rfl;have x3:w6.cell? ⟨p6,3,none⟩=some (.int .i64 c.n):=hk6.cell_ 3 _ rfl;have x4:w6.cell? ⟨p6,4,none⟩=some (.int .i64 c.m):=hk6.cell_ 4 _ rfl;have x5:w6.cell? ⟨p6,5,none⟩=some (.string (nmV c)):=hk6.cell_ 5 _ rfl;have x6:w6.cell? ⟨p6,6,none⟩=some (.slice A c.cells.length n):=hk6.cell_ 6 _ rfl;have x7:w6.cell? ⟨p6,7,none⟩=some (.int .i64 c.p):=hk6.cell_ 7 _ rfl;have x8:w6.cell? ⟨p6,8,none⟩=some (.int .i64 c.dx):=hk6.cell_ 8 _ rfl;have x9:w6.cell? ⟨p6,9,none⟩=some (.int .i64 c.dy):=hk6.cell_ 9 _ rfl;have hln:=line56_any c A n w6 (HG.out.ext HB6.out) (HE.out.ext HB6.out) (hcl.ext hb6) hcn;have hll:=line_len hcn;obtain⟨y,hy⟩:∃ b:ByteArray,b=⟨(lineP c).1.toArray⟩:=⟨_,rfl⟩
   obtain⟨er,her⟩:∃ e,e=(lineP c).2:=⟨_,rfl⟩
   have hyl:y.data.toList=(lineP c).1:=by rw[hy]
   have hys:y.size=(lineP c).1.length:=by rw[hy];show (lineP c).1.toArray.size=_;exact List.size_toArray
   rw[← hys] at hll;rw[← hy,← her] at hln;rw[← her] at HAT;rw[← hyl] at HSN;unfold cmdV at hln;have HLN:=hid hln;have HYS:Hid (y.data.toList.length=y.size):=hid (by rw[hyl,hys]);clear hat hsn hcm hcn hcl hc hk6 hb6 hln hy her hyl hys;go_upto_region 7 with fail
   rw[← hw6,← hp6];clear hw6 hp6 y0 y1 y2 y3 y4 y5 y6 y7 y8 y9;go_wp2_with (go_at_call 14;refine HLN.out.mono ?_;intro e w7 hx;obtain⟨rfl,hb7⟩:=hx;refine Hid.out ?_);refine hid ?_;have HB7:=hid (HB6.out.trans (hb7.mono HB6.out.size));clear hb7 HLN HB6 HBq x0 x1 x2 x3 x4 x5 x6 x7 x8 x9;by_cases h0:er=0
   ·subst h0;have e0:((0:Int) != 0)=false:=rfl;have HER:Hid (errT (l.drop (k+1))=errT l):=hid (by rw[← HT.out,HAT.out];rfl);cases lg with
    | true=>
     have HLG2:Hid (true=decide (65536 < (catT (l.take (k+1))).length)):=hid (by
      have h1:65536 < (catT (l.take k)).length:=of_decide_eq_true HLG.out.symm;have h2:(catT (l.take k)).length≤(catT (l.take (k+1))).length:=by rw[HSN.out,List.length_append];omega
      exact (decide_eq_true (Nat.lt_of_lt_of_le h1 h2)).symm)
     go_wp2;go_roundw
     case rel=>exact⟨k+1,ob,true,HLT.out,rfl,rfl,(by first | rfl | (rw[hwk];rfl)),HB7,HLG2,hid (fun h=>by cases h),HER⟩
     case measure=>(try rw[hwk]);exact meas_step5b HLT.out
    | false=>
     have hol:ob.data.toList.length=(catT (l.take k)).length:=by rw[HOB.out rfl]
     have hos:ob.size=ob.data.toList.length:=Array.length_toList.symm;have ho6:ob.size≤65536:=by
      have h1:=of_decide_eq_false HLG.out.symm;omega
     have hws:wrap64 ((ob.size:Int)+(y.size:Int))=(ob.size:Int)+(y.size:Int):=by unfold wrap64;omega
     have hsl:(catT (l.take (k+1))).length=ob.size+(y.size+1):=by
      rw[HSN.out,List.length_append,List.length_append,HYS.out,hos,hol];rfl
     have HSL:=hid hsl;have HLL:=hid hll;have HO6:=hid ho6;have HOA:Hid ((ob ++ (y ++ ⟨#[10]⟩):ByteArray).data.toList=catT (l.take (k+1))):=hid (by
      rw[HSN.out,← HOB.out rfl,ByteArray.data_append,Array.toList_append,ByteArray.data_append,Array.toList_append])
     have hm1:¬ 9223372036854775807 < y.size+1:=by omega
     have hm2:¬ 9223372036854775807 < ob.size+(y.size+1):=by omega
     by_cases h6:65536≤ob.size+y.size
     ·have d6:decide ((65536:Int)≤(ob.size:Int)+(y.size:Int))=true:=decide_eq_true (by omega);have h6i:(65536:Int)≤(ob.size:Int)+(y.size:Int):=by omega
      have HLG2:Hid (true=decide (65536 < (catT (l.take (k+1))).length)):=hid (decide_eq_true (by rw[HSL.out];omega)).symm;clear hol hos ho6 hsl h6;go_wp2;go_roundw
      case rel=>exact⟨k+1,ob,true,HLT.out,rfl,rfl,(by first | rfl | (rw[hwk];rfl)),HB7,HLG2,hid (fun h=>by cases h),HER⟩
      case measure=>(try rw[hwk]);exact meas_step5b HLT.out
     ·have d6:decide ((65536:Int)≤(ob.size:Int)+(y.size:Int))=false:=decide_eq_false (by omega);have h6i:¬ (65536:Int)≤(ob.size:Int)+(y.size:Int):=by omega
      have HLG2:Hid (false=decide (65536 < (catT (l.take (k+1))).length)):=hid (decide_eq_false (by rw[HSL.out];omega)).symm;clear hol hos ho6 hsl h6;go_wp2;go_roundw
      case rel=>exact⟨k+1,_,false,HLT.out,rfl,rfl,(by first | rfl | (rw[hwk];rfl)),HB7,HLG2,hid (fun _=>HOA.out),HER⟩
      case measure=>(try rw[hwk]);exact meas_step5b HLT.out
   ·have e0:(er != 0)=true:=by simpa using h0
    have HRE:Hid (r=([],er)):=hid (by
     have h1:errT l=er:=by rw[← HT.out,HAT.out,if_pos h0]
     rw[HR.out];unfold textP;rw[if_neg (by have:=HL2.out;omega),if_pos (by rw[h1];exact h0),h1])
    clear h0 HAT;go_wp2;go_ret2;exact⟨ret_se HRE.out,HB7.out⟩
  ·have hek:k=l.length:=by omega
   have dk:decide ((k:Int) < l.length)=false:=decide_eq_false (by omega);have hnlt:¬ k < l.length:=hlt;have HER:Hid (errT l=0):=hid (by rw[← HT.out,hek,List.drop_length];rfl);rw[show l.take k=l by rw[hek,List.take_length]] at HLG HOB;have HRB:Hid (r=if 65536 < (catT l).length then ([],6) else (catT l,0)):=hid (by
    rw[HR.out];unfold textP;rw[if_neg (by have:=HL2.out;omega),if_neg (by rw[HER.out];simp)])
   clear hek hlt HT;cases lg with
   | true=>
    have HRE:Hid (r=([],6)):=hid (by rw[HRB.out,if_pos (of_decide_eq_true HLG.out.symm)]);go_wp2;go_ret2;exact⟨ret_se HRE.out,HBq.out⟩
   | false=>
    have HRE:Hid (r=(ob.data.toList,0)):=hid (by rw[HRB.out,if_neg (of_decide_eq_false HLG.out.symm),HOB.out rfl]);go_wp2;go_ret2;refine⟨?_,HBq.out⟩;have h:=ret_se HRE.out;rw[ba_eta] at h;exact h
end Go.Proofs.YtcfelnhmifkelaaGreatDoor
namespace Go.Proofs.YtcfelnhmifkelaaGreatDoor
open Go.RowKit
set_option maxRecDepth 100000
set_option linter.unusedVariables false
set_option linter.unusedSimpArgs false
def Env56 (w:World):Prop:=Glob w∧ErrV w
theorem Env56.ext {w w':World}(h:Env56 w)(hb:Below w.heap.size w w'):Env56 w':=⟨h.1.ext hb,h.2.ext hb⟩
theorem parse_q (b:List UInt8){l:List Cmd}{N:Nat}{i er:Int}(w:World)(he:Env56 w)(h:scrP b=(l,i,er)) (hN:l.length=N)(hs:b.length≤70000) :
  Calls Tryz.prog 10 #[.string ⟨b.toArray⟩] w fun e w'=>∃ L c,e=.returned (.tuple #[.slice L N c,.int .i64 i,.int .i64 er])∧CmsA w' (.slice L N c) l∧Below w.heap.size w w':=by
 refine (parse56_any ⟨b.toArray⟩ w he.1.1 he.2 hs).mono ?_;rintro e w' ⟨v,rfl,hv,hb⟩;have e1:scrP (⟨b.toArray⟩:ByteArray).data.toList=(l,i,er):=h;rw[e1] at hv ⊢;obtain⟨L,c,rfl⟩:=hv.form;dsimp only at hv ⊢;rw[hN] at hv ⊢;exact⟨L,c,rfl,hv,hb⟩
theorem cms_one {w:World}{L:Option Addr}{c:Nat}{k:Cmd}(h:CmsA w (.slice L 1 c) [k]):∃ b o A n,L=some ⟨b,o,none⟩∧Cls w A k.cells∧w.cell? ⟨b,o,none⟩=some (.int .i64 k.kind)∧w.cell? ⟨b,o+1,none⟩=some (.int .i64 k.x)∧w.cell? ⟨b,o+2,none⟩=some (.int .i64 k.y)∧w.cell? ⟨b,o+3,none⟩=some (.int .i64 k.n)∧w.cell? ⟨b,o+4,none⟩=some (.int .i64 k.m)∧w.cell? ⟨b,o+5,none⟩=some (.string (nmV k))∧w.cell? ⟨b,o+6,none⟩=some (.slice A k.cells.length n)∧w.cell? ⟨b,o+7,none⟩=some (.int .i64 k.p)∧w.cell? ⟨b,o+8,none⟩=some (.int .i64 k.dx)∧w.cell? ⟨b,o+9,none⟩=some (.int .i64 k.dy):=by
 obtain⟨b,o,c',A,n,e,-,hcl,h0,h1,h2,h3,h4,h5,h6,h7,h8,h9⟩:=h.at_ (k:=0) (by simp);injection e with e1 e2 e3
 exact⟨b,o,A,n,e1,hcl,by simpa using h0,by simpa using h1,by simpa using h2,by simpa using h3,by simpa using h4,by simpa using h5,by simpa using h6,by simpa using h7,by simpa using h8,by simpa using h9⟩
theorem lineB_q {w:World}{AB:Option Addr}{nB:Nat}(he:Env56 w)(hc:Cls w AB exB.cells):Calls Tryz.prog 14 #[.agg #[.int .i64 2,.int .i64 0,.int .i64 0,.int .i64 0,.int .i64 0,.string ⟨#[103]⟩,.slice AB 5 nB,.int .i64 0,.int .i64 0,.int .i64 0]] w fun e w'=>e=.returned (.tuple #[.string ⟨#[99,101,108,108,115,32,103,32,98,111,36,50,98,111,36,51,111,33]⟩,.int .i64 0])∧Below w.heap.size w w':=by
 have h:=line56_any exB AB nB w he.1 he.2 hc (by decide);rw[exB_line] at h;exact h
theorem textA_q {w:World}{L:Option Addr}{c:Nat}(he:Env56 w)(h:CmsA w (.slice L 1 c) [exA]):Calls Tryz.prog 19 #[.slice L 1 c] w fun e w'=>e=.returned (.tuple #[.string ⟨#[112,117,116,32,103,32,97,116,32,45,51,32,52,32,116,117,114,110,32,50,10]⟩,.int .i64 0])∧Below w.heap.size w w':=by
 have h:=text56_any (.slice L 1 c) [exA] w he.1 he.2 h (by decide);rw[exA_text] at h;exact h
theorem sameA_q {w:World}{AA:Option Addr}{nA:Nat}(hc:Cls w AA exA.cells):Calls Tryz.prog 22 #[.agg #[.int .i64 3,.int .i64 (-3),.int .i64 4,.int .i64 2,.int .i64 0,.string ⟨#[103]⟩,.slice AA 0 nA,.int .i64 0,.int .i64 0,.int .i64 0],.agg #[.int .i64 3,.int .i64 (-3),.int .i64 4,.int .i64 2,.int .i64 0,.string ⟨#[103]⟩,.slice none 0 0,.int .i64 0,.int .i64 0,.int .i64 0]] w fun e w'=>e=.returned (.bool true)∧Below w.heap.size w w':=
 rsame_eq exA AA none nA 0 w hc Cls.nil
theorem rightA_q {w:World}{AA:Option Addr}{nA:Nat}(he:Env56 w)(hc:Cls w AA exA.cells):Calls Tryz.prog 16 #[.agg #[.int .i64 3,.int .i64 (-3),.int .i64 4,.int .i64 2,.int .i64 0,.string ⟨#[103]⟩,.slice AA 0 nA,.int .i64 0,.int .i64 0,.int .i64 0]] w fun e w'=>e=.returned (.bool true)∧Below w.heap.size w w':=by
 have h:=right56_any exA AA nA w he.1.1 he.2 hc (by decide);rw[exA_right] at h;exact h
end Go.Proofs.YtcfelnhmifkelaaGreatDoor
namespace Go.Proofs.YtcfelnhmifkelaaGreatDoor
open Lib(hid)
open Go.RowKit
set_option maxRecDepth 100000
set_option linter.unusedVariables false
set_option linter.unusedSimpArgs false
set_option maxHeartbeats 16000000 in
theorem awake_any (w:World)(he:Env56 w):Calls Tryz.prog 9 #[] w fun e w'=>e=.returned (.bool true)∧Below w.heap.size w w':=by
 have HENV:=hid he;have HB:Hid (Below w.heap.size w w):=hid (Below.refl _ _);clear he;go_enter Tryz.func9,Tryz.ntmps9;have hcall:=parse_q [112,117,116,32,103,32,97,116,32,45,51,32,52,32,116,117,114,110,32,50,32,35,32,116,119,111,32,116,117,114,110,115] (N:=1) w HENV.out exP1 rfl (by decide);have HCALL:=hid hcall;clear hcall;go_wp2_with (go_at_call 10;refine HCALL.out.mono ?_;intro e x1 hx;obtain⟨L1,c1,rfl,hc1,hb⟩:=hx;refine Hid.out ?_);refine hid ?_;replace HB:=hid (HB.out.trans (hb.mono HB.out.size));replace HENV:=hid (HENV.out.ext hb);clear hb HCALL;have HC1:=hid hc1;clear hc1;have hcall:=parse_q [99,101,108,108,115,32,103,32,50,98,111,36,51,98,111,36,98,51,111,33] (N:=1) x1 HENV.out exP2 rfl (by decide);have HCALL:=hid hcall;clear hcall;go_wp2_with (go_at_call 10;refine HCALL.out.mono ?_;intro e x2 hx;obtain⟨L2,c2,rfl,hc2,hb⟩:=hx;refine Hid.out ?_);refine hid ?_;replace HB:=hid (HB.out.trans (hb.mono HB.out.size));replace HENV:=hid (HENV.out.ext hb);replace HC1:=hid (HC1.out.ext hb);clear hb HCALL;have HC2:=hid hc2;clear hc2;have hcall:=parse_q [112,114,105,110,116,10,10,112,114,105,110,116,10,102,111,111] (N:=0) x2 HENV.out exP3 rfl (by decide);have HCALL:=hid hcall;clear hcall;go_wp2_with (go_at_call 10;refine HCALL.out.mono ?_;intro e x3 hx;obtain⟨L3,c3,rfl,hc3,hb⟩:=hx;refine Hid.out ?_);refine hid ?_;replace HB:=hid (HB.out.trans (hb.mono HB.out.size));replace HENV:=hid (HENV.out.ext hb);replace HC1:=hid (HC1.out.ext hb);replace HC2:=hid (HC2.out.ext hb);clear hb HCALL;clear hc3;have hcall:=parse_q [114,117,110,32,45,49] (N:=0) x3 HENV.out exP4 rfl (by decide);have HCALL:=hid hcall;clear hcall;go_wp2_with (go_at_call 10;refine HCALL.out.mono ?_;intro e x4 hx;obtain⟨L4,c4,rfl,hc4,hb⟩:=hx;refine Hid.out ?_);refine hid ?_;replace HB:=hid (HB.out.trans (hb.mono HB.out.size));replace HENV:=hid (HENV.out.ext hb);replace HC1:=hid (HC1.out.ext hb);replace HC2:=hid (HC2.out.ext hb);clear hb HCALL;clear hc4;have hcall:=parse_q [114,117,110,32,48,49] (N:=0) x4 HENV.out exP5 rfl (by decide);have HCALL:=hid hcall;clear hcall;go_wp2_with (go_at_call 10;refine HCALL.out.mono ?_;intro e x5 hx;obtain⟨L5,c5,rfl,hc5,hb⟩:=hx;refine Hid.out ?_);refine hid ?_;replace HB:=hid (HB.out.trans (hb.mono HB.out.size));replace HENV:=hid (HENV.out.ext hb);replace HC1:=hid (HC1.out.ext hb);replace HC2:=hid (HC2.out.ext hb);clear hb HCALL;clear hc5;have hcall:=parse_q [115,97,118,101,32,49,97] (N:=0) x5 HENV.out exP6 rfl (by decide);have HCALL:=hid hcall;clear hcall;go_wp2_with (go_at_call 10;refine HCALL.out.mono ?_;intro e x6 hx;obtain⟨L6,c6,rfl,hc6,hb⟩:=hx;refine Hid.out ?_);refine hid ?_;replace HB:=hid (HB.out.trans (hb.mono HB.out.size));replace HENV:=hid (HENV.out.ext hb);replace HC1:=hid (HC1.out.ext hb);replace HC2:=hid (HC2.out.ext hb);clear hb HCALL;clear hc6
 obtain⟨bB,oB,AB,nB,rfl,hclB,y0,y1,y2,y3,y4,y5,y6,y7,y8,y9⟩:=cms_one HC2.out
 replace y0:x6.cell? ⟨bB,oB,none⟩=some (.int .i64 2):=y0
 replace y1:x6.cell? ⟨bB,oB+1,none⟩=some (.int .i64 0):=y1
 replace y2:x6.cell? ⟨bB,oB+2,none⟩=some (.int .i64 0):=y2
 replace y3:x6.cell? ⟨bB,oB+3,none⟩=some (.int .i64 0):=y3
 replace y4:x6.cell? ⟨bB,oB+4,none⟩=some (.int .i64 0):=y4
 replace y5:x6.cell? ⟨bB,oB+5,none⟩=some (.string ⟨#[103]⟩):=y5
 replace y6:x6.cell? ⟨bB,oB+6,none⟩=some (.slice AB 5 nB):=y6
 replace y7:x6.cell? ⟨bB,oB+7,none⟩=some (.int .i64 0):=y7
 replace y8:x6.cell? ⟨bB,oB+8,none⟩=some (.int .i64 0):=y8
 replace y9:x6.cell? ⟨bB,oB+9,none⟩=some (.int .i64 0):=y9
 have HQ:=hid (lineB_q (nB:=nB) HENV.out hclB);clear hclB;have hcall:=HQ.out;have HCALL:=hid hcall;clear hcall;go_wp2_with (go_at_call 14;refine HCALL.out.mono ?_;intro e x7 hx;obtain⟨rfl,hb⟩:=hx;refine Hid.out ?_);refine hid ?_;replace HB:=hid (HB.out.trans (hb.mono HB.out.size));replace HENV:=hid (HENV.out.ext hb);replace HC1:=hid (HC1.out.ext hb);replace HC2:=hid (HC2.out.ext hb);clear hb HCALL;clear HQ y0 y1 y2 y3 y4 y5 y6 y7 y8 y9;have hcall:=textA_q HENV.out HC1.out;have HCALL:=hid hcall;clear hcall;go_wp2_with (go_at_call 19;refine HCALL.out.mono ?_;intro e x8 hx;obtain⟨rfl,hb⟩:=hx;refine Hid.out ?_);refine hid ?_;replace HB:=hid (HB.out.trans (hb.mono HB.out.size));replace HENV:=hid (HENV.out.ext hb);replace HC1:=hid (HC1.out.ext hb);replace HC2:=hid (HC2.out.ext hb);clear hb HCALL;obtain⟨bA,oA,AA,nA,rfl,hclA,y0,y1,y2,y3,y4,y5,y6,y7,y8,y9⟩:=cms_one HC1.out
 replace y0:x8.cell? ⟨bA,oA,none⟩=some (.int .i64 3):=y0
 replace y1:x8.cell? ⟨bA,oA+1,none⟩=some (.int .i64 (-3)):=y1
 replace y2:x8.cell? ⟨bA,oA+2,none⟩=some (.int .i64 4):=y2
 replace y3:x8.cell? ⟨bA,oA+3,none⟩=some (.int .i64 2):=y3
 replace y4:x8.cell? ⟨bA,oA+4,none⟩=some (.int .i64 0):=y4
 replace y5:x8.cell? ⟨bA,oA+5,none⟩=some (.string ⟨#[103]⟩):=y5
 replace y6:x8.cell? ⟨bA,oA+6,none⟩=some (.slice AA 0 nA):=y6
 replace y7:x8.cell? ⟨bA,oA+7,none⟩=some (.int .i64 0):=y7
 replace y8:x8.cell? ⟨bA,oA+8,none⟩=some (.int .i64 0):=y8
 replace y9:x8.cell? ⟨bA,oA+9,none⟩=some (.int .i64 0):=y9
 have HQ:=hid (sameA_q (nA:=nA) hclA);clear hclA;go_upto_region 11 with fail
 have hcall:=HQ.out;have HCALL:=hid hcall;clear hcall;go_wp2_with (go_at_call 22;refine HCALL.out.mono ?_;intro e x9 hx;obtain⟨rfl,hb⟩:=hx;refine Hid.out ?_);refine hid ?_;replace HB:=hid (HB.out.trans (hb.mono HB.out.size));replace HENV:=hid (HENV.out.ext hb);replace HC1:=hid (HC1.out.ext hb);replace HC2:=hid (HC2.out.ext hb);clear hb HCALL;clear HQ y0 y1 y2 y3 y4 y5 y6 y7 y8 y9;obtain⟨b2,o2,AA,nA,e2,hclA,y0,y1,y2,y3,y4,y5,y6,y7,y8,y9⟩:=cms_one HC1.out;injection e2 with e2
 injection e2 with e2 e3
 subst e2 e3
 replace y0:x9.cell? ⟨bA,oA,none⟩=some (.int .i64 3):=y0
 replace y1:x9.cell? ⟨bA,oA+1,none⟩=some (.int .i64 (-3)):=y1
 replace y2:x9.cell? ⟨bA,oA+2,none⟩=some (.int .i64 4):=y2
 replace y3:x9.cell? ⟨bA,oA+3,none⟩=some (.int .i64 2):=y3
 replace y4:x9.cell? ⟨bA,oA+4,none⟩=some (.int .i64 0):=y4
 replace y5:x9.cell? ⟨bA,oA+5,none⟩=some (.string ⟨#[103]⟩):=y5
 replace y6:x9.cell? ⟨bA,oA+6,none⟩=some (.slice AA 0 nA):=y6
 replace y7:x9.cell? ⟨bA,oA+7,none⟩=some (.int .i64 0):=y7
 replace y8:x9.cell? ⟨bA,oA+8,none⟩=some (.int .i64 0):=y8
 replace y9:x9.cell? ⟨bA,oA+9,none⟩=some (.int .i64 0):=y9
 have HQ:=hid (rightA_q (nA:=nA) HENV.out hclA);clear hclA;have hcall:=HQ.out;have HCALL:=hid hcall;clear hcall;go_wp2_with (go_at_call 16;refine HCALL.out.mono ?_;intro e x10 hx;obtain⟨rfl,hb⟩:=hx;refine Hid.out ?_);refine hid ?_;replace HB:=hid (HB.out.trans (hb.mono HB.out.size));replace HENV:=hid (HENV.out.ext hb);replace HC1:=hid (HC1.out.ext hb);replace HC2:=hid (HC2.out.ext hb);clear hb HCALL;clear HQ y0 y1 y2 y3 y4 y5 y6 y7 y8 y9;go_wp2;go_ret;exact⟨rfl,HB.out⟩
end Go.Proofs.YtcfelnhmifkelaaGreatDoor
namespace Go.Proofs.YtcfelnhmifkelaaGreatDoor
set_option linter.unusedSimpArgs false
set_option linter.unusedVariables false
open Go.ChangeShapes Go.WideShapes Go.ChangeAt Go.RowKit
set_option maxRecDepth 1000000

noncomputable def laidW (os:Os):World:=World.laidAll Tryz.prog os Rows.syntaxParsesRow.laid
theorem laidW_os (os:Os):(laidW os).os=os:=World.laidAll_os _ _ _
theorem laidW_shaped (os:Os)(args:Array Value):((laidW os).forCall (fun _ _=>0) ⟨#[],args,[]⟩).Shaped Tryz.prog:=World.shaped_of_ZipB (by kernel_rfl) (by kernel_rfl)
theorem laidW_met (os:Os)(args:Array Value):laidMetH Tryz.prog Rows.syntaxParsesRow.laid ((laidW os).forCall (fun _ _=>0) ⟨#[],args,[]⟩).memory:=by
 rw[MakeChecks.laidMetH_plain _ _ _ (by kernel_rfl)];exact laidMet_laidAll _ (by kernel_rfl) (by kernel_rfl)
theorem laidW_witness {H:Type}{enc:TypeId × Value→H}{f:FuncId}{fn:Func}{s:OpenSpec}{conds:List PathCond}{apart:Bool}(os:Os)(args:Array Value)
  (hok:Input.okWideB Tryz.checked.prog ((laidW os).forCall (fun _ _=>0) ⟨#[],args,[]⟩) f ⟨#[],args,[]⟩=true)
  (hrow:s.preRow enc Tryz.checked.prog fn conds apart Rows.syntaxParsesRow.laid ((laidW os).forCall (fun _ _=>0) ⟨#[],args,[]⟩).memory args) :
  ∃ (w:World) (tape:Tape) (i:Input),w.os=os∧(w.forCall tape i).Shaped Tryz.checked.prog∧i.vars=[]∧Input.okWide Tryz.checked.prog (w.forCall tape i) .any w.heap.size f i∧
   s.preRow enc Tryz.checked.prog fn conds apart Rows.syntaxParsesRow.laid (w.forCall tape i).memory i.args∧({}:Assume).holds Tryz.checked.prog (lone (Frame.enter Tryz.checked.prog f i.args .normal) [] (w.forCall tape i)):=
 ⟨laidW os,fun _ _=>0,⟨#[],args,[]⟩,laidW_os os,laidW_shaped os args,(Input.okWide_of_okWideB (base:=0) hok).1,(Input.okWide_of_okWideB hok).2,hrow,by
  simp only[Assume.holds];exact⟨by simp,by simp,fun _=>Modest.zero,by simp,by simp⟩⟩
end Go.Proofs.YtcfelnhmifkelaaGreatDoor
namespace Go.Proofs.YtcfelnhmifkelaaGreatDoor
set_option linter.unusedSimpArgs false
open Go.ChangeShapes Go.WideShapes Go.ChangeAt Go.RowKit Go.Deep
set_option maxRecDepth 100000
set_option linter.unusedVariables false

section
variable {H : Type} {enc : TypeId × Value → H} {P : Program}
theorem post_of_below {f:Func}{s:ChangeSpec}{apart fresh handsOn again:Bool}{W W':World}{args:Array Value}{v:Value}{ds gs:List (DataW H)} {before pa pv:List MemPlace}
  (hW:DataW.Whole enc P f.params.toList s.vars apart W args.toList ds gs before)
  (hres:∀ (b:Nat) (sp:Nat→Bool) (hd:Bool),DataW.TrodAll enc P W' b sp hd f.resultTypes.toList (v.resultList f.resultTypes.size) (s.fn H (ds ++ gs)).results [])
  (hargs:∀ sp:Nat→Bool,(∀ p ∈ before,sp p.block=true)→DataW.TrodAll enc P W' 0 sp true f.params.toList args.toList (s.fn H (ds ++ gs)).args pa)
  (hvars:∀ sp:Nat→Bool,(∀ p ∈ before,sp p.block=true)→DataW.TrodVars enc P W' sp s.vars (s.fn H (ds ++ gs)).vars pv)
  (hps:before=pa ++ pv) (hb:Below W.heap.size W W')
  (hok:∀ (j:Nat) (t:TypeId) (r:Value),f.resultTypes[j]?=some t→(v.resultList f.resultTypes.size)[j]?=some r→Value.okWide P W' .any 0 t r) :
  s.post enc P f apart fresh handsOn again W args v W':=by
 have hlt:∀ p ∈ before,p.block < W.heap.size:=fun p hp=>hW.lt p hp;have hold:∀ p ∈ before,(fun b=>decide (b < W.heap.size)) p.block=true:=fun p hp=>by simpa using hlt p hp
 refine⟨ds,gs,before,[],pa,pv,hW,hres _ _ _,hargs _ hold,hvars _ hold,World.keptBut_mono (fun p hp=>⟨hp,?_⟩) (hb.frame (· ∈ before)),fun _=>?_⟩
 ·rw[hps,List.mem_append] at hp;exact Or.inr hp
 ·obtain⟨_,_,_,_,_,hz,hn⟩:=hW;refine⟨hok,_,_,([] ++ pa) ++ pv,⟨[] ++ pa,pv,trodAll_append (hargs _ (fun _ _=>rfl)) (hres _ _ _),hvars _ (fun _ _=>rfl),rfl,?_,?_⟩,?_⟩
  ·intro b off hp;have hin:MemPlace.cell b off ∈ before:=by rw[hps];simpa using hp
   rw[hb.frozen (hlt _ hin)];exact hz b off hin
  ·intro ha;have:=hn ha;rw[hps] at this;simpa using this
  ·intro p hp _;rw[hps];simpa using hp
end
theorem Tryz.cellsInt:Tryz.prog.cellsOf 3=1:=by kernel_rfl
theorem Tryz.cellsCel:Tryz.prog.cellsOf 114=3:=by kernel_rfl
theorem Tryz.laidOut_:laidOutB Tryz.prog=true:=by kernel_rfl
theorem star56 : "*" ++ "errors.errorString" = "*errors.errorString" := by decide
theorem tp_of (u : TypeId) (h : Tryz.prog.typeName? 3 u = some "*errors.errorString") : u = 225 :=
 typeName_ptr_named (nm := "errors.errorString") (by rw [star56]; kernel_rfl) (by kernel_rfl) (by decide) u (by rw [star56]; exact h)
theorem errv_of {w:World}(hL:laidMetH Tryz.prog Rows.syntaxParsesRow.laid w):ErrV w:=by
 rw[MakeChecks.laidMetH_plain _ _ _ (by kernel_rfl)] at hL;obtain⟨a,t,h1,-⟩:=laid_sentinel (g:=5) (ti:=99) (tp:=225) (te:=227) (ts:=9) hL.tail.tail.tail.tail (by kernel_rfl) (by kernel_rfl) Tryz.underlying99 tp_of Tryz.underlying225 Tryz.underlying227 rfl rfl Tryz.underlying9 (by kernel_rfl) (by kernel_rfl);refine⟨.iface 225 (.pointer (some a)),?_,.inr ⟨225,.pointer (some a),rfl⟩⟩;have h:=World.var?_cell (g:=5) (by kernel_rfl) h1 0;rw[h];rfl
theorem env_of {w:World}(h:w.ShapedOpen Tryz.prog)(hL:laidMetH Tryz.prog Rows.syntaxParsesRow.laid w):Env56 w:=by
 refine⟨⟨?_,?_⟩,errv_of hL⟩
 ·exact cell_of_shapedOpen_int (t:=3) (zero:=#[.int .i64 0]) h (of_decide_eq_true (by kernel_rfl)) (by kernel_rfl) rfl (by kernel_rfl) (by kernel_rfl) Tryz.underlying3
 ·rw [MakeChecks.laidMetH_plain _ _ _ (by kernel_rfl)] at hL; have h3 : laidMet Tryz.prog (("internal/strconv.uint64pow10", Rows.laid_internal_strconv_uint64pow10) :: _) w := hL.tail.tail; exact Lib.tabIs_of_head (g := 3) (t := 207) (e := 163) (by kernel_rfl) (by kernel_rfl) Tryz.underlying207 Tryz.underlying163 (by kernel_rfl) (by kernel_rfl) h3
end Go.Proofs.YtcfelnhmifkelaaGreatDoor
