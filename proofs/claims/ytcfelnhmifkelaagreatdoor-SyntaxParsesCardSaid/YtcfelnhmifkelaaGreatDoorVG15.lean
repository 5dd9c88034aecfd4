/-
  texts Spl56 Rsp56 Rwd56 Lim56 Get56 Set56 Kof56P HomP CmdP: parts of the proof; conditions stand with each theorem.
-/
import Derived.Test.YtcfelnhmifkelaaGreatDoorVG14
import Derived.Test.YtcfelnhmifkelaaGreatDoorVG9
import Derived.Test.YtcfelnhmifkelaaGreatDoorVG1
import Derived.Test.YtcfelnhmifkelaaGreatDoorVG13
import Derived.Test.YtcfelnhmifkelaaGreatDoorVG3
namespace Go.Proofs.YtcfelnhmifkelaaGreatDoor
open Lib(hid)
open Go.RowKit
set_option maxRecDepth 100000
set_option linter.unusedVariables false
set_option linter.unusedSimpArgs false
attribute [local go_sem] Oper.semAt_some
def SI (w:World)(R:Nat)(pre:List ByteArray)(W:World):Prop:=
 ∃ v bs,Blk W R 44 #[v]∧OwnS 9 W (R+4) v bs∧Below R w W∧Hid (WrdS (pre.map (·.data.toList)) (wdL bs)∧bs.length≤pre.length)
def SX (w:World)(R:Nat)(pre:List ByteArray)(W:World):Prop:=
 ∃ v bs,Blk W R 44 #[v]∧OwnS 9 W (R+4) v bs∧Below R w W∧Hid (∀ rest,wordsTo (pre.map (·.data.toList) ++ rest)=wdL bs)
theorem SI.from_ {w:World}{R B:Nat}(hR:R≤w.heap.size)(hB:R≤B):OwnFrom B (SI w R):=by
 rintro s W W' row ⟨v,bs,h1,h5,h6,h7⟩ hg hr;exact⟨v,bs,blk_own h1 hg hr,ownS_own h5 hg hr,h6.grown hg (Nat.le_trans hR h6.size) (fun k e=>Nat.le_trans hB (hr k e).1),h7⟩
theorem SX.from_ {w:World}{R B:Nat}(hR:R≤w.heap.size)(hB:R≤B):OwnFrom B (SX w R):=by
 rintro s W W' row ⟨v,bs,h1,h5,h6,h7⟩ hg hr;exact⟨v,bs,blk_own h1 hg hr,ownS_own h5 hg hr,h6.grown hg (Nat.le_trans hR h6.size) (fun k e=>Nat.le_trans hB (hr k e).1),h7⟩
theorem SI.spare {w:World}{R:Nat}:Spare (R+1) (SI w R):=by
 rintro s W u ⟨v,bs,h1,h5,h6,h7⟩;exact⟨v,bs,h1.far (p:=⟨R+1,0,none⟩) (by simp) u,ownS_set h5 (by omega),h6.setCell (p:=⟨R+1,0,none⟩) (by simp) u,h7⟩
def RetWs (ws:List (List UInt8)) (w:World)(e:Ending)(w':World):Prop:=∃ A c bs,e=.returned (.slice A bs.length c)∧Sts w' A bs∧wdL bs=ws∧bs.length≤70001∧Below w.heap.size w w'
theorem str_nil56 (b:ByteArray):(b.toList == [])=decide (b.data.toList=[]):=by
 have h:=str_eq2 b ⟨#[]⟩;rw[ByteArray.toList_eq (⟨#[]⟩:ByteArray)] at h;exact h
theorem words_few (ps:List (List UInt8)):(wordsTo ps).length≤ps.length:=by
 induction ps with
 | nil=>exact Nat.le_refl _
 | cons p ps ih=>
  show (if hashB p then [] else if p=[] then wordsTo ps else p :: wordsTo ps).length≤_
  split
  ·exact Nat.zero_le _
  ·split
   ·exact Nat.le_succ_of_le ih
   ·exact Nat.succ_le_succ ih
theorem split_few:∀ l:List UInt8,(splitC 32 l).length≤l.length+1
 | []=>Nat.le_refl _
 | a :: l=>by
  have ih:=split_few l;rw[splitC]
  split
  ·exact Nat.succ_le_succ ih
  ·split
   ·simp
   ·rename_i p ps e;rw[e] at ih;simp only[List.length_cons] at ih ⊢;omega
set_option maxHeartbeats 4000000 in
theorem split56_any (s:ByteArray)(w:World)(hs:s.size≤70000):Calls Tryz.prog 26 #[.string s] w (RetWs (wordsOf s.data.toList) w):=by
 have hS:=fun w=>(callsIn_wide (n:=8)).2 (SplitSeq_any s w);obtain⟨ws,hws⟩:∃ ws,ws=wordsOf s.data.toList:=⟨_,rfl⟩
 rw[← hws];have HWL:Hid (ws.length≤70001):=hid (by rw[hws];unfold wordsOf;exact Nat.le_trans (words_few _) (Nat.le_trans (split_few _) (Nat.succ_le_succ hs)));have HTS:Hid (∀ ls,Parts56 s ls→wordsTo (ls.map (·.data.toList))=ws):=hid (fun ls h=>by rw[hws];unfold wordsOf;rw[h.split]);clear hws;refine callsIn_wide (n:=9) |>.1 ?_
 refine callsIn_of_wp_marks Tryz.func26 rfl trivial ?_ rfl;simp only[Tryz.ntmps26,List.size_toArray,List.length_cons,List.length_nil,Nat.reduceAdd,Nat.reduceSub,Array.replicate_succ,Array.replicate_zero,List.push_toArray,List.append_toArray,List.nil_append,List.cons_append]
 gi_wp2
 refine⟨trivial,(hS _).mono ?_⟩;rintro e w1 ⟨rfl,hw1⟩;have hw2:=hw1.symm;clear hw1;subst hw2
 gi_wp2
 obtain⟨W4,hW4⟩:∃ W4,W4=w.alloc (.cells #[.slice none 0 0] 44):=⟨_,rfl⟩
 have hz4:W4.heap.size=w.heap.size+1:=by rw[hW4];simp
 have hB0:Below w.heap.size w W4:=by rw[hW4];exact (Below.refl _ w).alloc (Nat.le_refl _) _
 have k0:Blk W4 w.heap.size 44 #[.slice none 0 0]:=by rw[hW4];exact Blk.new w _ _
 rw[← hW4];clear hW4;have b1:Blk (boxes s W4) (w.heap.size+1) 9 #[.string s]:=by rw[← hz4];exact ((Blk.new W4 _ _).alloc _).alloc _
 have b2:Blk (boxes s W4) (w.heap.size+1+1) 9 #[.string ⟨#[32]⟩]:=by
  have h:=Blk.new (W4.alloc (.cells #[.string s] 9)) 9 #[.string ⟨#[32]⟩];rw[World.size_alloc,hz4] at h;exact h.alloc _
 have b3:Blk (boxes s W4) (w.heap.size+1+1+1) 3 #[.int .i64 0]:=by
  have h:=Blk.new ((W4.alloc (.cells #[.string s] 9)).alloc (.cells #[.string ⟨#[32]⟩] 9)) 3 #[.int .i64 0];rw[World.size_alloc,World.size_alloc,hz4] at h;exact h
 have hz7:(boxes s W4).heap.size=w.heap.size+4:=by unfold boxes;simp[hz4]
 have hB7:Below w.heap.size w (boxes s W4):=((hB0.alloc (by omega) _).alloc (by simp;omega) _).alloc (by simp;omega) _;have HI0:SI w w.heap.size [] (boxes s W4):=⟨.slice none 0 0,[],((k0.alloc _).alloc _).alloc _,OwnS.nil _ _ _,hB7,hid ⟨WrdS.start,Nat.le_refl _⟩⟩
 have hsq:=parts_any s hs (w.heap.size+1) (boxes s W4) b1 b2 b3;obtain⟨W7,hW7⟩:∃ W7,W7=boxes s W4:=⟨_,rfl⟩
 rw[← hW7] at hsq hB7 HI0 hz7 ⊢;clear hW7 b1 b2 b3 k0 hB0 hz4 hS;refine wpIn_rangeBox (id:=0) (gf:=132) (lb:=#[.pointer (some ⟨w.heap.size+1+1,0,none⟩),.pointer (some ⟨w.heap.size+1,0,none⟩),.pointer (some ⟨w.heap.size+1+2,0,none⟩)]) rfl (enters_of Tryz.func132 (by kernel_rfl) rfl) hsq (Below.refl _ _) (by omega) (by omega) rfl
  (SI w w.heap.size) (SX w w.heap.size) (SI.from_ (Nat.le_refl _) (by omega)) (SX.from_ (Nat.le_refl _) (by omega)) SI.spare HI0
  (fun x=>{ tmps:=#[.string s,undef,.slice none 0 0,.pointer (some ⟨w.heap.size,0,none⟩),.string x,.string s,seqAt (w.heap.size+1),.string x,undef,undef,undef,undef,undef,undef,undef,undef,undef],defers:=[] }) ?assign ?body ?done ?stop
 case assign=>
  intro l x W K hK
  gi_wp2
  exact hK
 case body=>
  clear hsq HI0 hB7 HTS;rintro l pre x W hWs ⟨v,bs,h1,h5,h6,H7⟩ hOk;have hlen:bs.length < 4294967296:=by have:=H7.out.2;unfold Fits at hOk;omega
  have hbs:w.heap.size+4≤W.heap.size:=by omega
  have hP:=fun w=>(callsIn_wide (n:=6)).2 (Tryz.strings_HasPrefix x ⟨#[35]⟩ w);have e35:(⟨#[35]⟩:ByteArray).data.toList=[35]:=rfl;rw[e35,pre35] at hP;clear e35 hOk;have dn:=str_nil56 x;have c0:=h1.cell 0;have f0:=h1.frozen 0;cases hpx:hashB x.data.toList with
  | true=>
   rw[hpx] at hP;have HM:Hid (∀ rest,wordsTo ((pre ++ [x]).map (·.data.toList) ++ rest)=wdL bs):=hid (fun rest=>by rw[List.map_append];exact H7.out.1.hash hpx rest);clear hpx dn
   gi_wp2
   refine⟨trivial,CallsIn.inRound l ((hP _).mono ?_)⟩;rintro e w1 ⟨rfl,hw1⟩;have hw2:=hw1.symm;clear hw1;subst hw2
   gi_wp2
   exact⟨rfl,KeepsOthers.refl _,v,bs,h1,h5,h6,HM⟩
  | false=>
   rw[hpx] at hP;have HPX:=hid hpx;clear hpx;by_cases hx:x.data.toList=[]
   ·rw[decide_eq_true hx] at dn;have HM:Hid (WrdS ((pre ++ [x]).map (·.data.toList)) (wdL bs)∧bs.length≤(pre ++ [x]).length):=hid ⟨by rw[List.map_append];show WrdS (_ ++ [x.data.toList]) _;rw[hx];exact H7.out.1.skip,by rw[List.length_append];exact Nat.le_add_right_of_le H7.out.2⟩;clear hx
    gi_wp2
    refine⟨trivial,CallsIn.inRound l ((hP _).mono ?_)⟩;rintro e w1 ⟨rfl,hw1⟩;have hw2:=hw1.symm;clear hw1;subst hw2
    gi_wp2
    exact⟨KeepsOthers.refl _,Held.refl _ _ _,v,bs,h1,h5,h6,HM⟩
   ·rw[decide_eq_false hx] at dn;have HM:Hid (WrdS ((pre ++ [x]).map (·.data.toList)) (wdL (bs ++ [x]))∧(bs ++ [x]).length≤(pre ++ [x]).length):=hid ⟨by rw[List.map_append];unfold wdL;rw[List.map_append];exact H7.out.1.word HPX.out hx,by rw[List.length_append,List.length_append];exact Nat.add_le_add_right H7.out.2 _⟩;clear hx
    gi_wp2
    refine⟨trivial,CallsIn.inRound l ((hP _).mono ?_)⟩;rintro e w1 ⟨rfl,hw1⟩;have hw2:=hw1.symm;clear hw1;subst hw2
    gi_wp2_with (gi_at_builtin;refine wpListIn_pushS rfl _ _ _ rfl (w.heap.size+4) 9 (by kernel_rfl) Tryz.infoString _ _ rfl h5 _ rfl hlen hbs ?_)
    intro v2 w9 ho9 hb9 hko9 hsz9 hbl9;have h1':=hbl9 _ _ _ (by decide) h1;clear c0 f0;have c0:=h1'.cell 0;have f0:=h1'.frozen 0;have HO9:=hid ho9;obtain⟨A9,c9,hv9,-,-⟩:=ho9.sts;rw[List.length_append,List.length_singleton] at hv9;subst hv9
    gi_wp2
    exact⟨hko9.trans (KeepsOthers.setCell _ _ _),((Held.refl _ _ _).below hb9 (by omega)).setCell (p:=⟨w.heap.size,0,none⟩) (by simp <;> omega) _,_,_,h1'.set_ 0 _,ownS_set HO9.out (by omega),(h6.trans (hb9.mono (by omega))).setCell (p:=⟨w.heap.size,0,none⟩) (by simp <;> omega) _,HM⟩
 case done=>
  clear hsq HI0;rintro D ys W hD hS ⟨v,bs,h1,h5,h6,H7⟩ hK;have HR:Hid (wdL bs=ws):=hid (H7.out.1.done.symm.trans (HTS.out ys hS));have hDR:w.heap.size+4≤D:=by omega
  have c0:=h1.cell 0;have f0:=h1.frozen 0;clear hS;have HO:=hid h5;obtain⟨A,c,hv,-,-⟩:=h5.sts;subst hv
  gi_wp2
  refine⟨by simp,.inl ⟨_,_,rfl,run_takeDeferred hK,?_⟩⟩;have hO2:OwnS 9 (W.putObj D (.deferred none)) (w.heap.size+4) (.slice A bs.length c) bs:=ownsRow_putObj HO.out _ hK rfl;obtain⟨A',c',hv',hcl,-⟩:=hO2.sts;injection hv' with hA' _ hc'
  subst hA' hc';refine⟨.slice A bs.length c,?_,A,c,bs,rfl,hcl,HR.out,?_,h6.trans (belowK_b (w:=w) (Nat.le_refl _) _ D _ _ (by omega) hK rfl rfl)⟩
  ·simp[results,Tryz.f26,go_sem]
  ·have h:=HWL.out;rw[← HR.out] at h;unfold wdL at h;rw[List.length_map] at h;exact h
 case stop=>
  clear hsq HI0;rintro D pre rest W hD hS ⟨v,bs,h1,h5,h6,H7⟩ hK;have HR:Hid (wdL bs=ws):=hid (by have h:=HTS.out _ hS;rw[List.map_append,H7.out] at h;exact h);have hDR:w.heap.size+4≤D:=by omega
  have c0:=h1.cell 0;have f0:=h1.frozen 0;clear hS;have HO:=hid h5;obtain⟨A,c,hv,-,-⟩:=h5.sts;subst hv
  gi_wp2
  refine⟨by simp,.inl ⟨_,_,rfl,run_takeDeferred hK,?_⟩⟩;have hO2:OwnS 9 (W.putObj D (.deferred none)) (w.heap.size+4) (.slice A bs.length c) bs:=ownsRow_putObj HO.out _ hK rfl;obtain⟨A',c',hv',hcl,-⟩:=hO2.sts;injection hv' with hA' _ hc'
  subst hA' hc';refine⟨.slice A bs.length c,?_,A,c,bs,rfl,hcl,HR.out,?_,h6.trans (belowK_b (w:=w) (Nat.le_refl _) _ D _ _ (by omega) hK rfl rfl)⟩
  ·simp[results,Tryz.f26,go_sem]
  ·have h:=HWL.out;rw[← HR.out] at h;unfold wdL at h;rw[List.length_map] at h;exact h
theorem wpList_pushS {P:Program}{wr:World}{ops:Array Oper}{rest:List Oper}{o:Oper}{a:Act}{Q:Exit→Act→World→Prop}(hgd:o.guard=none)(s x:Operand)(t:TypeId)
  (ho:o.op=.call { callee:=.builtin .append,args:=#[s,x],argTypes:=#[t,t] })
  (base:Nat) (e:TypeId) (ht:P.underlying t=some (.slice e)) (hi:(P.info? e).map (fun i=>(i.zero,i.size,i.bytes))=some (some (.string ⟨#[]⟩),1,16))
  (v:Value) (bs:List ByteArray) (hs:a.eval s=v) (hown:OwnS e wr base v bs)
  (b:ByteArray) (hx:a.eval x=.slice (some ⟨wr.heap.size,0,none⟩) 1 1)
  (hn:bs.length < 4294967296) (hbase:base≤wr.heap.size)
  (h:∀ v' w',OwnS e w' base v' (bs ++ [b])→Below base wr w'→wpList P ops Q rest (a.put o.dst v') w') :
  wpList P ops Q (o :: rest) a (wr.alloc (.cells #[.string b] e)):=
 wpList_push hgd s x t ho base e _ 1 16 ht hi rfl (by decide) v bs.length _ hs hown [.string b] rfl hx (by simp[Value.oneCell']) (by unfold maxLen;omega) (by omega) hbase
  (fun v' w' h1 h2=>h v' w' (by unfold OwnS;rw[List.length_append,List.map_append];exact h1) h2)
theorem piece_toList (s:ByteArray){i j:Nat}(hij:i≤j)(hj:j≤s.size):(s.extract i j).data.toList=(s.data.toList.take j).drop i:=by
 rw[ByteArray.data_extract,Array.toList_extract,List.extract_eq_take_drop,List.drop_take]
theorem take_drop_succ {l:List UInt8}{i k:Nat}(hik:i≤k)(hk:k < l.length):(l.take (k+1)).drop i=(l.take k).drop i ++ [l[k]]:=by
 rw[List.take_succ_eq_append_getElem hk,List.drop_append_of_le_length (by rw[List.length_take];omega)]
theorem meas_r1 {n k:Nat}(h:k≤n):n+1 - (intOf (.int .i64 ((k:Int)+1))).toNat < n+1 - (intOf (.int .i64 (k:Int))).toNat:=by
 simp[intOf];omega
def contC (p:List UInt8)(ps:List (List UInt8)):List (List UInt8):=match ps with | []=>[p] | q :: qs=>(p ++ q) :: qs
theorem splitC_ne (c:UInt8):∀ l,splitC c l≠[]
 | []=>by simp[splitC]
 | a :: l=>by
  rw[splitC]
  split
  ·simp
  ·split <;> simp
theorem contC_nil {ps:List (List UInt8)} (h:ps≠[]):contC [] ps=ps:=by
 cases ps with
 | nil=>exact absurd rfl h
 | cons q qs=>rfl
theorem contC_cut (p:List UInt8)(c:UInt8)(r:List UInt8):contC p (splitC c (c :: r))=p :: splitC c r:=by
 rw[splitC,if_pos rfl];show (p ++ []) :: _=_;rw[List.append_nil]
theorem contC_byte (p:List UInt8){c a:UInt8}(h:a≠c)(r:List UInt8):contC p (splitC c (a :: r))=contC (p ++ [a]) (splitC c r):=by
 rw[splitC,if_neg h];have hn:=splitC_ne c r;cases e:splitC c r with
 | nil=>exact absurd e hn
 | cons q qs=>show (p ++ (a :: q)) :: qs=(p ++ [a] ++ q) :: qs;simp
theorem contC_end (p:List UInt8)(c:UInt8):contC p (splitC c [])=[p]:=by
 show [p ++ []]=_;rw[List.append_nil]
theorem OwnS.cap {T:TypeId}{w:World}{base:Nat}{v:Value}{bs:List ByteArray}{A:Option Addr}{n c:Nat}(h:OwnS T w base v bs)(hv:v=.slice A n c):bs.length≤c:=by
 rcases h.2 with ⟨e,h0⟩ | ⟨g,cap,cur,e,h1,h2,h3,h4⟩
 ·omega
 ·rw[hv] at e;injection e with e1 e2 e3
  omega
set_option maxHeartbeats 8000000 in
theorem rsplit_any (s:ByteArray)(c:UInt8)(cn:Int)(hcn:cn=c.toNat)(w:World)(hs:s.size≤2147483648) :
  Calls Tryz.prog 29 #[.string s,.int .u8 cn] w fun e w'=>∃ A c' ls,e=.returned (.slice A ls.length c')∧Sts w' A ls∧wdL ls=splitC c s.data.toList∧(ls.length≤s.size+1∧ls.length≤c')∧Below w.heap.size w w':=by
 have HS:=hid hs;have HCN:=hid hcn;obtain⟨l,hl⟩:∃ l,l=s.data.toList:=⟨_,rfl⟩
 have hgb:∀ j (h:j < s.size) (h':j < l.length),l[j]=s[j]:=by subst hl;exact get_byte9 s
 have hlen:l.length=s.size:=by rw[hl];rfl
 have hpc:∀ i j,i≤j→j≤s.size→(s.extract i j).data.toList=(l.take j).drop i:=by subst hl;exact fun i j h1 h2=>piece_toList s h1 h2
 rw[← hl];have HG:=hid (And.intro hlen (And.intro hgb hpc));clear hl hgb hlen hpc hs hcn;go_enter Tryz.func29,Tryz.ntmps29;go_wp2;go_loopw [5,6,7] (fun v f i wr=>∃ (k from_:Nat) (ls:List ByteArray),k≤s.size+1∧from_≤k∧i=.int .i64 k∧f=.int .i64 from_∧Hid (OwnS 9 wr w.heap.size v ls)∧Hid (Below w.heap.size w wr)∧Hid (k≤s.size→splitC c l=wdL ls ++ contC ((l.take k).drop from_) (splitC c (l.drop k)))∧Hid (k=s.size+1→wdL ls=splitC c l)∧Hid (ls.length≤k)) (fun _ _ i _=>s.size+1 - (intOf i).toNat)
 case atStart=>exact⟨0,0,[],Nat.zero_le _,Nat.le_refl _,rfl,rfl,hid (OwnS.nil _ _ _),hid (Below.refl _ _),hid (fun _=>by rw[List.drop_zero];exact (contC_nil (splitC_ne c l)).symm),hid (fun h=>by omega),hid (Nat.le_refl _)⟩
 case round=>
  obtain⟨k,from_,ls,hk,hf,rfl,rfl,HO,HB,HL,HE,HN⟩:=hrel;by_cases hle:k≤s.size
  ·have dle:decide ((k:Int)≤(s.size:Int))=true:=decide_eq_true (by omega);have hwk:wrap64 ((k:Int)+1)=(k:Int)+1:=by have:=HS.out;unfold wrap64;omega
   have HK:=hid hle;have HF:=hid hf;by_cases hlt:k < s.size
   ·have hlt':k < l.length:=by rw[HG.out.1];exact hlt
    have e0:((k:Int) == (s.size:Int))=false:=beq_false_of_ne (by omega);have hdr:l.drop k=l[k] :: l.drop (k+1):=List.drop_eq_getElem_cons hlt';have hby:=HG.out.2.1 k hlt hlt';have hl0:=HL.out hle;by_cases h10:s[k]=c
    ·have e1:((s[k].toNat:Int) == cn)=true:=by rw[h10,HCN.out];exact beq_self_eq_true _
     have HL2:Hid (k+1≤s.size→splitC c l=wdL (ls ++ [s.extract from_ k]) ++ contC ((l.take (k+1)).drop (k+1)) (splitC c (l.drop (k+1)))):=hid (fun _=>by
      rw[hl0,hdr,hby,h10,contC_cut,List.drop_eq_nil_of_le (show (l.take (k+1)).length≤k+1 from List.length_take_le _ _),contC_nil (splitC_ne _ _)];unfold wdL;rw[List.map_append,List.map_cons,List.map_nil,HG.out.2.2 from_ k hf hle,List.append_assoc];rfl)
     have HE2:Hid (k+1=s.size+1→wdL (ls ++ [s.extract from_ k])=splitC c l):=hid (fun h=>by omega);have HLT:=hid hlt;clear h10 hdr hby hlt' hl0 hle;go_wp2_with (at_builtin;refine wpList_pushS rfl _ _ 44 rfl w.heap.size 9 (by kernel_rfl) Tryz.infoString _ ls rfl HO.out (s.extract from_ k) rfl ?c1 HB.out.size ?_)
     case c1=>have:=HN.out;have:=HS.out;have:=HK.out;omega
     intro v' w' ho hb;have HO2:=hid ho;have HB2:=hid (HB.out.trans hb);clear ho hb;go_wp2;go_roundw
     case rel=>exact⟨k+1,k+1,_,Nat.succ_le_succ HK.out,Nat.le_refl _,by go_num,by go_num,HO2,HB2,HL2,HE2,hid (by rw[List.length_append];have:=HN.out;simp;omega)⟩
     case measure=>rw[hwk];exact meas_r1 HK.out
    ·have e1:((s[k].toNat:Int) == cn)=false:=by
      rw[HCN.out];simp only[beq_eq_false_iff_ne,ne_eq];intro h;exact h10 (UInt8.toNat_inj.1 (by omega))
     have HL2:Hid (k+1≤s.size→splitC c l=wdL ls ++ contC ((l.take (k+1)).drop from_) (splitC c (l.drop (k+1)))):=hid (fun _=>by
      rw[hl0,hdr,contC_byte _ (by rw[hby];exact h10),take_drop_succ hf hlt'])
     have HE2:Hid (k+1=s.size+1→wdL ls=splitC c l):=hid (fun h=>by omega);have HLT:=hid hlt;clear h10 hdr hby hlt' hl0 hle;go_wp2;go_roundw
     case rel=>exact⟨k+1,from_,ls,Nat.succ_le_succ HK.out,Nat.le_succ_of_le HF.out,by go_num,rfl,HO,HB,HL2,HE2,hid (Nat.le_succ_of_le HN.out)⟩
     case measure=>rw[hwk];exact meas_r1 HK.out
   ·have heq:k=s.size:=by omega
    have e0:((k:Int) == (s.size:Int))=true:=by rw[beq_iff_eq];omega
    have HL2:Hid (k+1≤s.size→splitC c l=wdL (ls ++ [s.extract from_ k]) ++ contC ((l.take (k+1)).drop (k+1)) (splitC c (l.drop (k+1)))):=hid (fun h=>by omega);have HE2:Hid (k+1=s.size+1→wdL (ls ++ [s.extract from_ k])=splitC c l):=hid (fun _=>by
     rw[HL.out hle,show l.drop k=[] from List.drop_eq_nil_of_le (by rw[HG.out.1];omega),contC_end];unfold wdL;rw[List.map_append,List.map_cons,List.map_nil,HG.out.2.2 from_ k hf hle])
    clear heq hle hlt;go_wp2_with (at_builtin;refine wpList_pushS rfl _ _ 44 rfl w.heap.size 9 (by kernel_rfl) Tryz.infoString _ ls rfl HO.out (s.extract from_ k) rfl ?c1 HB.out.size ?_)
    case c1=>have:=HN.out;have:=HS.out;have:=HK.out;omega
    intro v' w' ho hb;have HO2:=hid ho;have HB2:=hid (HB.out.trans hb);clear ho hb;go_wp2;go_roundw
    case rel=>exact⟨k+1,k+1,_,Nat.succ_le_succ HK.out,Nat.le_refl _,by go_num,by go_num,HO2,HB2,HL2,HE2,hid (by rw[List.length_append];have:=HN.out;simp;omega)⟩
    case measure=>rw[hwk];exact meas_r1 HK.out
  ·have heq:k=s.size+1:=by omega
   have dle:decide ((k:Int)≤(s.size:Int))=false:=decide_eq_false (by omega);have HR:=hid (HE.out heq);have HN2:Hid (ls.length≤s.size+1):=hid (by have:=HN.out;omega);obtain⟨A,c',hv,h1,h2⟩:=HO.out.sts;have HCP:=hid (OwnS.cap HO.out hv);subst hv;have HO2:=hid h1;have hgt:s.size < k:=Nat.lt_of_not_le hle;clear heq hk hf h1 h2;go_wp2;go_ret;exact⟨A,c',_,rfl,HO2.out,HR.out,⟨HN2.out,HCP.out⟩,HB.out⟩
theorem take_one56 {ls:List ByteArray}{k:Nat}(h:k < ls.length):(wdL ls).take (k+1)=(wdL ls).take k ++ [ls[k].data.toList]:=by
 have h2:k < (wdL ls).length:=by unfold wdL;rw[List.length_map];exact h
 rw[List.take_succ_eq_append_getElem h2]
 congr 2
 exact List.getElem_map _
theorem hash_first {x:ByteArray}(h:0 < x.size):(((x[0]'h).toNat:Int) == 35)=hashB x.data.toList:=by
 have h':0 < x.data.toList.length:=h;have e:x.data.toList=(x[0]'h) :: x.data.toList.drop 1:=by
  have:=List.drop_eq_getElem_cons h';rw[List.drop_zero] at this;exact this
 rw[e];show _=(some (x[0]'h) == some 35)
 by_cases hc:x[0]'h=35
 ·rw[hc];rfl
 ·rw[beq_eq_false_iff_ne.2 (fun e=>hc (Option.some.inj e)),beq_eq_false_iff_ne];intro e;exact hc (UInt8.toNat_inj.1 (by have:(35:UInt8).toNat=35:=rfl;omega))
set_option maxHeartbeats 8000000 in
theorem rwords_any (s:ByteArray)(w:World)(hs:s.size≤70000):Calls Tryz.prog 30 #[.string s] w (RetWs (wordsOf s.data.toList) w):=by
 obtain⟨ws,hws⟩:∃ ws,ws=wordsOf s.data.toList:=⟨_,rfl⟩
 rw[← hws];have HWL:Hid (ws.length≤70001):=hid (by rw[hws];unfold wordsOf;exact Nat.le_trans (words_few _) (Nat.le_trans (split_few _) (Nat.succ_le_succ hs)));have HSP:=hid (rsplit_any s 32 32 rfl w (by omega));have HS:=hid hs;have HWS:=hid hws;clear hws hs;go_enter Tryz.func30,Tryz.ntmps30;go_wp2_with (go_at_call 29;refine HSP.out.mono ?_;intro e w1 hx;obtain⟨A,c,ls,rfl,h1,h2,⟨h3,-⟩,h4⟩:=hx;refine Hid.out ?_);refine hid ?_;clear HSP;have HW:Hid (wordsTo (wdL ls)=ws):=hid (by rw[h2,HWS.out];rfl);have HLN:Hid (ls.length≤70001):=hid (by have:=HS.out;omega);have HA:=hid h1;have HB1:=hid h4;clear h1 h2 h3 h4 HWS;go_wp2;go_loopw [4,5] (fun v i wr=>∃ (k:Nat) (bs:List ByteArray),k≤ls.length∧i=.int .i64 k∧Hid (OwnS 9 wr w1.heap.size v bs)∧Hid (Below w1.heap.size w1 wr)∧Hid (WrdS ((wdL ls).take k) (wdL bs))∧Hid (bs.length≤k)) (fun _ i _=>ls.length - (intOf i).toNat)
 case atStart=>exact⟨0,[],Nat.zero_le _,rfl,hid (OwnS.nil _ _ _),hid (Below.refl _ _),hid WrdS.start,hid (Nat.le_refl _)⟩
 case round=>
  obtain⟨k,bs,hk,rfl,HO,HB,HL,HN⟩:=hrel;by_cases hlt:k < ls.length
  ·have hwk:wrap64 ((k:Int)+1)=(k:Int)+1:=by have:=HLN.out;unfold wrap64;omega
   obtain⟨b,o,rfl,-,cb⟩:=(HA.out.ext HB.out).at_ hlt;have htk:=take_one56 hlt;obtain⟨x,hx⟩:∃ x,x=ls[k]:=⟨_,rfl⟩
   rw[← hx] at cb htk;have dn:=str_nil56 x;have HTK:=hid htk;have HLT:=hid hlt;clear hx htk;by_cases hx0:x.data.toList=[]
   ·rw[decide_eq_true hx0] at dn;have HL2:Hid (WrdS ((wdL ls).take (k+1)) (wdL bs)):=hid (by rw[HTK.out,hx0];exact HL.out.skip);clear hx0;go_wp2;go_roundw
    case rel=>exact⟨k+1,bs,HLT.out,by go_num,HO,HB,HL2,hid (Nat.le_succ_of_le HN.out)⟩
    case measure=>rw[hwk];exact meas_step5b HLT.out
   ·rw[decide_eq_false hx0] at dn;have hsz:0 < x.size:=(List.length_pos_iff.2 hx0:0 < x.data.toList.length)
    have e35:=hash_first hsz;cases hh:hashB x.data.toList with
    | true=>
     rw[hh] at e35;have HR:Hid (wdL bs=ws):=hid (by
      have h:=HL.out.hash hh ((wdL ls).drop (k+1));rw[← HTK.out,List.take_append_drop,HW.out] at h;exact h.symm)
     obtain⟨A',c',hv,h1,-⟩:=HO.out.sts;subst hv;have HO2:=hid h1;clear hh hx0 h1;go_wp2;go_ret;exact⟨A',c',bs,rfl,HO2.out,HR.out,Nat.le_trans HN.out (Nat.le_trans hk HLN.out),HB1.out.trans (HB.out.mono HB1.out.size)⟩
    | false=>
     rw[hh] at e35;have HL2:Hid (WrdS ((wdL ls).take (k+1)) (wdL (bs ++ [x]))):=hid (by rw[HTK.out];unfold wdL;rw[List.map_append];exact HL.out.word hh hx0);clear hh hx0;go_wp2_with (at_builtin;refine wpList_pushS rfl _ _ 44 rfl w1.heap.size 9 (by kernel_rfl) Tryz.infoString _ bs rfl HO.out x rfl ?c1 HB.out.size ?_)
     case c1=>have:=HN.out;have:=HLN.out;omega
     intro v' w' ho hb;have HO2:=hid ho;have HB2:=hid (HB.out.trans hb);clear ho hb;go_wp2;go_roundw
     case rel=>exact⟨k+1,_,HLT.out,by go_num,HO2,HB2,HL2,hid (by rw[List.length_append];have:=HN.out;simp;omega)⟩
     case measure=>rw[hwk];exact meas_step5b HLT.out
  ·obtain rfl:k=ls.length:=by omega
   have HR:Hid (wdL bs=ws):=hid (by
    have h:=HL.out;rw[List.take_of_length_le (by unfold wdL;rw[List.length_map];exact Nat.le_refl _)] at h;exact h.done.symm.trans HW.out)
   obtain⟨A',c',hv,h1,-⟩:=HO.out.sts;subst hv;have HO2:=hid h1;clear h1;go_wp2;go_ret;exact⟨A',c',bs,rfl,HO2.out,HR.out,Nat.le_trans HN.out HLN.out,HB1.out.trans (HB.out.mono HB1.out.size)⟩
end Go.Proofs.YtcfelnhmifkelaaGreatDoor
namespace Go.Proofs.YtcfelnhmifkelaaGreatDoor
open Go.RowKit
set_option maxRecDepth 100000
set_option linter.unusedVariables false
set_option linter.unusedSimpArgs false
def LimAt (f:List UInt8)(w:World):Prop:=Calls Tryz.prog 48 #[.string ⟨f.toArray⟩] w fun e w'=>e=.returned (.tuple #[.int .i64 (slotR f).lo,.int .i64 (slotR f).hi])∧w=w'
theorem lim_88 (w:World):LimAt [88] w:=by
 unfold LimAt;go_enter Tryz.func48,Tryz.ntmps48;go_wp2;go_ret2;exact⟨rfl,rfl⟩
theorem lim_89 (w:World):LimAt [89] w:=by
 unfold LimAt;go_enter Tryz.func48,Tryz.ntmps48;go_wp2;go_ret2;exact⟨rfl,rfl⟩
theorem lim_77 (w:World):LimAt [77] w:=by
 unfold LimAt;go_enter Tryz.func48,Tryz.ntmps48;go_wp2;go_ret2;exact⟨rfl,rfl⟩
theorem lim_75 (w:World):LimAt [75] w:=by
 unfold LimAt;go_enter Tryz.func48,Tryz.ntmps48;go_wp2;go_ret2;exact⟨rfl,rfl⟩
theorem lim_80 (w:World):LimAt [80] w:=by
 unfold LimAt;go_enter Tryz.func48,Tryz.ntmps48;go_wp2;go_ret2;exact⟨rfl,rfl⟩
theorem lim_71 (w:World):LimAt [71] w:=by
 unfold LimAt;go_enter Tryz.func48,Tryz.ntmps48;go_wp2;go_ret2;exact⟨rfl,rfl⟩
theorem lim_81 (w:World):LimAt [81] w:=by
 unfold LimAt;go_enter Tryz.func48,Tryz.ntmps48;go_wp2;go_ret2;exact⟨rfl,rfl⟩
theorem lim_68 (w:World):LimAt [68] w:=by
 unfold LimAt;go_enter Tryz.func48,Tryz.ntmps48;go_wp2;go_ret2;exact⟨rfl,rfl⟩
theorem lim_69 (w:World):LimAt [69] w:=by
 unfold LimAt;go_enter Tryz.func48,Tryz.ntmps48;go_wp2;go_ret2;exact⟨rfl,rfl⟩
def numWords:List (List UInt8):=[[88],[89],[77],[75],[80],[71],[81],[68],[69]]
theorem limits_any {f:List UInt8}(h:f ∈ numWords)(w:World):LimAt f w:=by
 unfold numWords at h;simp only[List.mem_cons,List.not_mem_nil,or_false] at h;rcases h with rfl | rfl | rfl | rfl | rfl | rfl | rfl | rfl | rfl
 ·exact lim_88 w
 ·exact lim_89 w
 ·exact lim_77 w
 ·exact lim_75 w
 ·exact lim_80 w
 ·exact lim_71 w
 ·exact lim_81 w
 ·exact lim_68 w
 ·exact lim_69 w
theorem num_words {k:Int}(h:k ∈ ([1,2,3,4,5,6,7,8,9,10,11,12]:List Int)) {f:List UInt8}(hf:f ∈ formR k)(hn:nmcB f=true):f ∈ numWords:=by
 have e:∀ k ∈ ([1,2,3,4,5,6,7,8,9,10,11,12]:List Int),∀ f ∈ formR k,nmcB f=true→f ∈ numWords:=by decide
 exact e k h f hf hn
def cmdV (c:Cmd)(nm:ByteArray)(cv:Value):Value:=.agg #[.int .i64 c.kind,.int .i64 c.x,.int .i64 c.y,.int .i64 c.n,.int .i64 c.m,.string nm,cv,.int .i64 c.p,.int .i64 c.dx,.int .i64 c.dy]
theorem Tryz.sizeCommand:(Tryz.prog.info? 34).map (·.size)=some 10:=by kernel_rfl
def SetAt (f:List UInt8)(c:Cmd)(nm:ByteArray)(A:Option Addr)(len cap:Nat)(v:Int)(w:World):Prop:=Calls Tryz.prog 49 #[cmdV c nm (.slice A len cap),.string ⟨f.toArray⟩,.int .i64 v] w fun e w'=>e=.returned (cmdV (c.set (slotR f).fld v) nm (.slice A len cap))∧Below w.heap.size w w'
theorem set_88 (c:Cmd)(nm:ByteArray)(A:Option Addr)(len cap:Nat)(v:Int)(w:World):SetAt [88] c nm A len cap v w:=by
 unfold SetAt cmdV;obtain⟨kd,x,y,n,m,wd,cs,p,dx,dy⟩:=c;have hb:Blk (w.alloc (.cells #[.int .i64 kd,.int .i64 x,.int .i64 y,.int .i64 n,.int .i64 m,.string nm,.slice A len cap,.int .i64 p,.int .i64 dx,.int .i64 dy] 34)) w.heap.size 34 #[.int .i64 kd,.int .i64 x,.int .i64 y,.int .i64 n,.int .i64 m,.string nm,.slice A len cap,.int .i64 p,.int .i64 dx,.int .i64 dy]:=Blk.new w _ _;have c1:=hb.cell 1;have c2:=hb.cell 2;have c3:=hb.cell 3;have c4:=hb.cell 4;have c7:=hb.cell 7;have c8:=hb.cell 8;have c9:=hb.cell 9;clear hb;go_enter Tryz.func49,Tryz.ntmps49;go_wp2;refine bodyPost_ret (results_cell_row Tryz.results49 _ _ (w.heap.size+1) 34 #[.int .i64 kd,.int .i64 v,.int .i64 y,.int .i64 n,.int .i64 m,.string nm,.slice A len cap,.int .i64 p,.int .i64 dx,.int .i64 dy] (0,0) _ rfl ?_ Tryz.underlying34 rfl Tryz.sizeCommand) rfl ?_
 ·have h:=Blk.new (w.alloc (.cells #[.int .i64 kd,.int .i64 v,.int .i64 y,.int .i64 n,.int .i64 m,.string nm,.slice A len cap,.int .i64 p,.int .i64 dx,.int .i64 dy] 34)) 34 #[.int .i64 kd,.int .i64 v,.int .i64 y,.int .i64 n,.int .i64 m,.string nm,.slice A len cap,.int .i64 p,.int .i64 dx,.int .i64 dy];rw[World.size_alloc] at h;exact h
 ·exact⟨rfl,((Below.refl _ w).alloc (Nat.le_refl _) _).alloc (by simp) _⟩
theorem set_89 (c:Cmd)(nm:ByteArray)(A:Option Addr)(len cap:Nat)(v:Int)(w:World):SetAt [89] c nm A len cap v w:=by
 unfold SetAt cmdV;obtain⟨kd,x,y,n,m,wd,cs,p,dx,dy⟩:=c;have hb:Blk (w.alloc (.cells #[.int .i64 kd,.int .i64 x,.int .i64 y,.int .i64 n,.int .i64 m,.string nm,.slice A len cap,.int .i64 p,.int .i64 dx,.int .i64 dy] 34)) w.heap.size 34 #[.int .i64 kd,.int .i64 x,.int .i64 y,.int .i64 n,.int .i64 m,.string nm,.slice A len cap,.int .i64 p,.int .i64 dx,.int .i64 dy]:=Blk.new w _ _;have c1:=hb.cell 1;have c2:=hb.cell 2;have c3:=hb.cell 3;have c4:=hb.cell 4;have c7:=hb.cell 7;have c8:=hb.cell 8;have c9:=hb.cell 9;clear hb;go_enter Tryz.func49,Tryz.ntmps49;go_wp2;refine bodyPost_ret (results_cell_row Tryz.results49 _ _ (w.heap.size+1) 34 #[.int .i64 kd,.int .i64 x,.int .i64 v,.int .i64 n,.int .i64 m,.string nm,.slice A len cap,.int .i64 p,.int .i64 dx,.int .i64 dy] (0,0) _ rfl ?_ Tryz.underlying34 rfl Tryz.sizeCommand) rfl ?_
 ·have h:=Blk.new (w.alloc (.cells #[.int .i64 kd,.int .i64 x,.int .i64 v,.int .i64 n,.int .i64 m,.string nm,.slice A len cap,.int .i64 p,.int .i64 dx,.int .i64 dy] 34)) 34 #[.int .i64 kd,.int .i64 x,.int .i64 v,.int .i64 n,.int .i64 m,.string nm,.slice A len cap,.int .i64 p,.int .i64 dx,.int .i64 dy];rw[World.size_alloc] at h;exact h
 ·exact⟨rfl,((Below.refl _ w).alloc (Nat.le_refl _) _).alloc (by simp) _⟩
theorem set_77 (c:Cmd)(nm:ByteArray)(A:Option Addr)(len cap:Nat)(v:Int)(w:World):SetAt [77] c nm A len cap v w:=by
 unfold SetAt cmdV;obtain⟨kd,x,y,n,m,wd,cs,p,dx,dy⟩:=c;have hb:Blk (w.alloc (.cells #[.int .i64 kd,.int .i64 x,.int .i64 y,.int .i64 n,.int .i64 m,.string nm,.slice A len cap,.int .i64 p,.int .i64 dx,.int .i64 dy] 34)) w.heap.size 34 #[.int .i64 kd,.int .i64 x,.int .i64 y,.int .i64 n,.int .i64 m,.string nm,.slice A len cap,.int .i64 p,.int .i64 dx,.int .i64 dy]:=Blk.new w _ _;have c1:=hb.cell 1;have c2:=hb.cell 2;have c3:=hb.cell 3;have c4:=hb.cell 4;have c7:=hb.cell 7;have c8:=hb.cell 8;have c9:=hb.cell 9;clear hb;go_enter Tryz.func49,Tryz.ntmps49;go_wp2;refine bodyPost_ret (results_cell_row Tryz.results49 _ _ (w.heap.size+1) 34 #[.int .i64 kd,.int .i64 x,.int .i64 y,.int .i64 n,.int .i64 v,.string nm,.slice A len cap,.int .i64 p,.int .i64 dx,.int .i64 dy] (0,0) _ rfl ?_ Tryz.underlying34 rfl Tryz.sizeCommand) rfl ?_
 ·have h:=Blk.new (w.alloc (.cells #[.int .i64 kd,.int .i64 x,.int .i64 y,.int .i64 n,.int .i64 v,.string nm,.slice A len cap,.int .i64 p,.int .i64 dx,.int .i64 dy] 34)) 34 #[.int .i64 kd,.int .i64 x,.int .i64 y,.int .i64 n,.int .i64 v,.string nm,.slice A len cap,.int .i64 p,.int .i64 dx,.int .i64 dy];rw[World.size_alloc] at h;exact h
 ·exact⟨rfl,((Below.refl _ w).alloc (Nat.le_refl _) _).alloc (by simp) _⟩
theorem set_75 (c:Cmd)(nm:ByteArray)(A:Option Addr)(len cap:Nat)(v:Int)(w:World):SetAt [75] c nm A len cap v w:=by
 unfold SetAt cmdV;obtain⟨kd,x,y,n,m,wd,cs,p,dx,dy⟩:=c;have hb:Blk (w.alloc (.cells #[.int .i64 kd,.int .i64 x,.int .i64 y,.int .i64 n,.int .i64 m,.string nm,.slice A len cap,.int .i64 p,.int .i64 dx,.int .i64 dy] 34)) w.heap.size 34 #[.int .i64 kd,.int .i64 x,.int .i64 y,.int .i64 n,.int .i64 m,.string nm,.slice A len cap,.int .i64 p,.int .i64 dx,.int .i64 dy]:=Blk.new w _ _;have c1:=hb.cell 1;have c2:=hb.cell 2;have c3:=hb.cell 3;have c4:=hb.cell 4;have c7:=hb.cell 7;have c8:=hb.cell 8;have c9:=hb.cell 9;clear hb;go_enter Tryz.func49,Tryz.ntmps49;go_wp2;refine bodyPost_ret (results_cell_row Tryz.results49 _ _ (w.heap.size+1) 34 #[.int .i64 kd,.int .i64 x,.int .i64 y,.int .i64 v,.int .i64 m,.string nm,.slice A len cap,.int .i64 p,.int .i64 dx,.int .i64 dy] (0,0) _ rfl ?_ Tryz.underlying34 rfl Tryz.sizeCommand) rfl ?_
 ·have h:=Blk.new (w.alloc (.cells #[.int .i64 kd,.int .i64 x,.int .i64 y,.int .i64 v,.int .i64 m,.string nm,.slice A len cap,.int .i64 p,.int .i64 dx,.int .i64 dy] 34)) 34 #[.int .i64 kd,.int .i64 x,.int .i64 y,.int .i64 v,.int .i64 m,.string nm,.slice A len cap,.int .i64 p,.int .i64 dx,.int .i64 dy];rw[World.size_alloc] at h;exact h
 ·exact⟨rfl,((Below.refl _ w).alloc (Nat.le_refl _) _).alloc (by simp) _⟩
theorem set_80 (c:Cmd)(nm:ByteArray)(A:Option Addr)(len cap:Nat)(v:Int)(w:World):SetAt [80] c nm A len cap v w:=by
 unfold SetAt cmdV;obtain⟨kd,x,y,n,m,wd,cs,p,dx,dy⟩:=c;have hb:Blk (w.alloc (.cells #[.int .i64 kd,.int .i64 x,.int .i64 y,.int .i64 n,.int .i64 m,.string nm,.slice A len cap,.int .i64 p,.int .i64 dx,.int .i64 dy] 34)) w.heap.size 34 #[.int .i64 kd,.int .i64 x,.int .i64 y,.int .i64 n,.int .i64 m,.string nm,.slice A len cap,.int .i64 p,.int .i64 dx,.int .i64 dy]:=Blk.new w _ _;have c1:=hb.cell 1;have c2:=hb.cell 2;have c3:=hb.cell 3;have c4:=hb.cell 4;have c7:=hb.cell 7;have c8:=hb.cell 8;have c9:=hb.cell 9;clear hb;go_enter Tryz.func49,Tryz.ntmps49;go_wp2;refine bodyPost_ret (results_cell_row Tryz.results49 _ _ (w.heap.size+1) 34 #[.int .i64 kd,.int .i64 x,.int .i64 y,.int .i64 v,.int .i64 m,.string nm,.slice A len cap,.int .i64 p,.int .i64 dx,.int .i64 dy] (0,0) _ rfl ?_ Tryz.underlying34 rfl Tryz.sizeCommand) rfl ?_
 ·have h:=Blk.new (w.alloc (.cells #[.int .i64 kd,.int .i64 x,.int .i64 y,.int .i64 v,.int .i64 m,.string nm,.slice A len cap,.int .i64 p,.int .i64 dx,.int .i64 dy] 34)) 34 #[.int .i64 kd,.int .i64 x,.int .i64 y,.int .i64 v,.int .i64 m,.string nm,.slice A len cap,.int .i64 p,.int .i64 dx,.int .i64 dy];rw[World.size_alloc] at h;exact h
 ·exact⟨rfl,((Below.refl _ w).alloc (Nat.le_refl _) _).alloc (by simp) _⟩
theorem set_71 (c:Cmd)(nm:ByteArray)(A:Option Addr)(len cap:Nat)(v:Int)(w:World):SetAt [71] c nm A len cap v w:=by
 unfold SetAt cmdV;obtain⟨kd,x,y,n,m,wd,cs,p,dx,dy⟩:=c;have hb:Blk (w.alloc (.cells #[.int .i64 kd,.int .i64 x,.int .i64 y,.int .i64 n,.int .i64 m,.string nm,.slice A len cap,.int .i64 p,.int .i64 dx,.int .i64 dy] 34)) w.heap.size 34 #[.int .i64 kd,.int .i64 x,.int .i64 y,.int .i64 n,.int .i64 m,.string nm,.slice A len cap,.int .i64 p,.int .i64 dx,.int .i64 dy]:=Blk.new w _ _;have c1:=hb.cell 1;have c2:=hb.cell 2;have c3:=hb.cell 3;have c4:=hb.cell 4;have c7:=hb.cell 7;have c8:=hb.cell 8;have c9:=hb.cell 9;clear hb;go_enter Tryz.func49,Tryz.ntmps49;go_wp2;refine bodyPost_ret (results_cell_row Tryz.results49 _ _ (w.heap.size+1) 34 #[.int .i64 kd,.int .i64 x,.int .i64 y,.int .i64 v,.int .i64 m,.string nm,.slice A len cap,.int .i64 p,.int .i64 dx,.int .i64 dy] (0,0) _ rfl ?_ Tryz.underlying34 rfl Tryz.sizeCommand) rfl ?_
 ·have h:=Blk.new (w.alloc (.cells #[.int .i64 kd,.int .i64 x,.int .i64 y,.int .i64 v,.int .i64 m,.string nm,.slice A len cap,.int .i64 p,.int .i64 dx,.int .i64 dy] 34)) 34 #[.int .i64 kd,.int .i64 x,.int .i64 y,.int .i64 v,.int .i64 m,.string nm,.slice A len cap,.int .i64 p,.int .i64 dx,.int .i64 dy];rw[World.size_alloc] at h;exact h
 ·exact⟨rfl,((Below.refl _ w).alloc (Nat.le_refl _) _).alloc (by simp) _⟩
theorem set_81 (c:Cmd)(nm:ByteArray)(A:Option Addr)(len cap:Nat)(v:Int)(w:World):SetAt [81] c nm A len cap v w:=by
 unfold SetAt cmdV;obtain⟨kd,x,y,n,m,wd,cs,p,dx,dy⟩:=c;have hb:Blk (w.alloc (.cells #[.int .i64 kd,.int .i64 x,.int .i64 y,.int .i64 n,.int .i64 m,.string nm,.slice A len cap,.int .i64 p,.int .i64 dx,.int .i64 dy] 34)) w.heap.size 34 #[.int .i64 kd,.int .i64 x,.int .i64 y,.int .i64 n,.int .i64 m,.string nm,.slice A len cap,.int .i64 p,.int .i64 dx,.int .i64 dy]:=Blk.new w _ _;have c1:=hb.cell 1;have c2:=hb.cell 2;have c3:=hb.cell 3;have c4:=hb.cell 4;have c7:=hb.cell 7;have c8:=hb.cell 8;have c9:=hb.cell 9;clear hb;go_enter Tryz.func49,Tryz.ntmps49;go_wp2;refine bodyPost_ret (results_cell_row Tryz.results49 _ _ (w.heap.size+1) 34 #[.int .i64 kd,.int .i64 x,.int .i64 y,.int .i64 n,.int .i64 m,.string nm,.slice A len cap,.int .i64 v,.int .i64 dx,.int .i64 dy] (0,0) _ rfl ?_ Tryz.underlying34 rfl Tryz.sizeCommand) rfl ?_
 ·have h:=Blk.new (w.alloc (.cells #[.int .i64 kd,.int .i64 x,.int .i64 y,.int .i64 n,.int .i64 m,.string nm,.slice A len cap,.int .i64 v,.int .i64 dx,.int .i64 dy] 34)) 34 #[.int .i64 kd,.int .i64 x,.int .i64 y,.int .i64 n,.int .i64 m,.string nm,.slice A len cap,.int .i64 v,.int .i64 dx,.int .i64 dy];rw[World.size_alloc] at h;exact h
 ·exact⟨rfl,((Below.refl _ w).alloc (Nat.le_refl _) _).alloc (by simp) _⟩
theorem set_68 (c:Cmd)(nm:ByteArray)(A:Option Addr)(len cap:Nat)(v:Int)(w:World):SetAt [68] c nm A len cap v w:=by
 unfold SetAt cmdV;obtain⟨kd,x,y,n,m,wd,cs,p,dx,dy⟩:=c;have hb:Blk (w.alloc (.cells #[.int .i64 kd,.int .i64 x,.int .i64 y,.int .i64 n,.int .i64 m,.string nm,.slice A len cap,.int .i64 p,.int .i64 dx,.int .i64 dy] 34)) w.heap.size 34 #[.int .i64 kd,.int .i64 x,.int .i64 y,.int .i64 n,.int .i64 m,.string nm,.slice A len cap,.int .i64 p,.int .i64 dx,.int .i64 dy]:=Blk.new w _ _;have c1:=hb.cell 1;have c2:=hb.cell 2;have c3:=hb.cell 3;have c4:=hb.cell 4;have c7:=hb.cell 7;have c8:=hb.cell 8;have c9:=hb.cell 9;clear hb;go_enter Tryz.func49,Tryz.ntmps49;go_wp2;refine bodyPost_ret (results_cell_row Tryz.results49 _ _ (w.heap.size+1) 34 #[.int .i64 kd,.int .i64 x,.int .i64 y,.int .i64 n,.int .i64 m,.string nm,.slice A len cap,.int .i64 p,.int .i64 v,.int .i64 dy] (0,0) _ rfl ?_ Tryz.underlying34 rfl Tryz.sizeCommand) rfl ?_
 ·have h:=Blk.new (w.alloc (.cells #[.int .i64 kd,.int .i64 x,.int .i64 y,.int .i64 n,.int .i64 m,.string nm,.slice A len cap,.int .i64 p,.int .i64 v,.int .i64 dy] 34)) 34 #[.int .i64 kd,.int .i64 x,.int .i64 y,.int .i64 n,.int .i64 m,.string nm,.slice A len cap,.int .i64 p,.int .i64 v,.int .i64 dy];rw[World.size_alloc] at h;exact h
 ·exact⟨rfl,((Below.refl _ w).alloc (Nat.le_refl _) _).alloc (by simp) _⟩
theorem set_69 (c:Cmd)(nm:ByteArray)(A:Option Addr)(len cap:Nat)(v:Int)(w:World):SetAt [69] c nm A len cap v w:=by
 unfold SetAt cmdV;obtain⟨kd,x,y,n,m,wd,cs,p,dx,dy⟩:=c;have hb:Blk (w.alloc (.cells #[.int .i64 kd,.int .i64 x,.int .i64 y,.int .i64 n,.int .i64 m,.string nm,.slice A len cap,.int .i64 p,.int .i64 dx,.int .i64 dy] 34)) w.heap.size 34 #[.int .i64 kd,.int .i64 x,.int .i64 y,.int .i64 n,.int .i64 m,.string nm,.slice A len cap,.int .i64 p,.int .i64 dx,.int .i64 dy]:=Blk.new w _ _;have c1:=hb.cell 1;have c2:=hb.cell 2;have c3:=hb.cell 3;have c4:=hb.cell 4;have c7:=hb.cell 7;have c8:=hb.cell 8;have c9:=hb.cell 9;clear hb;go_enter Tryz.func49,Tryz.ntmps49;go_wp2;refine bodyPost_ret (results_cell_row Tryz.results49 _ _ (w.heap.size+1) 34 #[.int .i64 kd,.int .i64 x,.int .i64 y,.int .i64 n,.int .i64 m,.string nm,.slice A len cap,.int .i64 p,.int .i64 dx,.int .i64 v] (0,0) _ rfl ?_ Tryz.underlying34 rfl Tryz.sizeCommand) rfl ?_
 ·have h:=Blk.new (w.alloc (.cells #[.int .i64 kd,.int .i64 x,.int .i64 y,.int .i64 n,.int .i64 m,.string nm,.slice A len cap,.int .i64 p,.int .i64 dx,.int .i64 v] 34)) 34 #[.int .i64 kd,.int .i64 x,.int .i64 y,.int .i64 n,.int .i64 m,.string nm,.slice A len cap,.int .i64 p,.int .i64 dx,.int .i64 v];rw[World.size_alloc] at h;exact h
 ·exact⟨rfl,((Below.refl _ w).alloc (Nat.le_refl _) _).alloc (by simp) _⟩
theorem set_any {f:List UInt8}(h:f ∈ numWords)(c:Cmd)(nm:ByteArray)(A:Option Addr)(len cap:Nat)(v:Int)(w:World):SetAt f c nm A len cap v w:=by
 unfold numWords at h;simp only[List.mem_cons,List.not_mem_nil,or_false] at h;rcases h with rfl | rfl | rfl | rfl | rfl | rfl | rfl | rfl | rfl
 ·exact set_88 c nm A len cap v w
 ·exact set_89 c nm A len cap v w
 ·exact set_77 c nm A len cap v w
 ·exact set_75 c nm A len cap v w
 ·exact set_80 c nm A len cap v w
 ·exact set_71 c nm A len cap v w
 ·exact set_81 c nm A len cap v w
 ·exact set_68 c nm A len cap v w
 ·exact set_69 c nm A len cap v w
end Go.Proofs.YtcfelnhmifkelaaGreatDoor
namespace Go.Proofs.YtcfelnhmifkelaaGreatDoor
set_option linter.unusedSimpArgs false
set_option linter.unusedVariables false
def kinds12:List Int:=[1,2,3,4,5,6,7,8,9,10,11,12]
theorem fits_head {f:Form}{ws:List (List UInt8)} (h:fitsP f ws=true):ws.headD []=f.word:=by
 unfold fitsP at h;simp only[Bool.and_eq_true,decide_eq_true_eq] at h;exact h.1.1
theorem fits_one {i j:Int}(hi:i ∈ kinds12)(hj:j ∈ kinds12){ws:List (List UInt8)} (h1:fitsP (formK i) ws=true) (h2:fitsP (formK j) ws=true):i=j:=by
 have e:∀ i ∈ kinds12,∀ j ∈ kinds12,(formK i).word=(formK j).word→i=j:=by decide
 exact e i hi j hj ((fits_head h1).symm.trans (fits_head h2))
def formOf (ws:List (List UInt8)):Option Form:=formsP.find? fun f=>fitsP f ws
def lastK (ws:List (List UInt8)) (k:Int):List Int→Int
 | []=>k
 | i :: l=>lastK ws (if fitsP (formK i) ws then i else k) l
theorem lastK_none {ws:List (List UInt8)}:∀ (l:List Int)(k:Int),(∀ i ∈ l,fitsP (formK i) ws=false)→lastK ws k l=k
 | [],k,_=>rfl
 | i :: l,k,h=>by
  rw[lastK,h i List.mem_cons_self,if_neg Bool.false_ne_true];exact lastK_none l k fun j hj=>h j (List.mem_cons_of_mem _ hj)
theorem lastK_one {ws:List (List UInt8)} {j:Int}:∀ (l:List Int)(k:Int),j ∈ l→(∀ i ∈ l,fitsP (formK i) ws=true→i=j)→fitsP (formK j) ws=true→lastK ws k l=j
 | [],k,hj,_,_=>absurd hj (by simp)
 | i :: l,k,hj,hu,hf=>by
  rw[lastK];by_cases hl:j ∈ l
  ·exact lastK_one l _ hl (fun x hx=>hu x (List.mem_cons_of_mem _ hx)) hf
  ·obtain rfl:j=i:=(List.mem_cons.1 hj).resolve_right hl;rw[if_pos hf];refine lastK_none l j fun x hx=>?_;cases e:fitsP (formK x) ws with
   | false=>rfl
   | true=>exact absurd (hu x (List.mem_cons_of_mem _ hx) e ▸ hx) hl
theorem lastK_formOf (ws:List (List UInt8)):(formOf ws=none∧lastK ws 0 kinds12=0)∨∃ k ∈ kinds12,formOf ws=some (formK k)∧lastK ws 0 kinds12=k:=by
 unfold formOf;rw[formsK];cases e:(([1,2,3,4,5,6,7,8,9,10,11,12]:List Int).map formK).find? (fun f=>fitsP f ws) with
 | none=>
  refine .inl ⟨rfl,lastK_none _ _ fun i hi=>?_⟩;have h:=List.find?_eq_none.1 e (formK i) (List.mem_map_of_mem hi);simpa using h
 | some f=>
  have h1:=List.find?_some e;obtain⟨k,hk,rfl⟩:=List.mem_map.1 (List.mem_of_find?_eq_some e);exact .inr ⟨k,hk,rfl,lastK_one _ _ hk (fun i hi h=>fits_one hi hk h h1) h1⟩
end Go.Proofs.YtcfelnhmifkelaaGreatDoor
namespace Go.Proofs.YtcfelnhmifkelaaGreatDoor
open Go.RowKit
set_option maxRecDepth 100000
set_option linter.unusedVariables false
set_option linter.unusedSimpArgs false
def mvC (x y:Int)(c:Cel):Cel:=⟨c.x - x,c.y - y,c.s⟩
def homeC (ps:List Cel):List Cel:=if (boxC ps).2=true then ps.map (mvC (boxC ps).1.x (boxC ps).1.y) else ps
def homedB (ps:List Cel):Bool:=rightC ps && !((boxC ps).2 && (decide ((boxC ps).1.x≠0) || decide ((boxC ps).1.y≠0)))
theorem box_two (ps:List Cel):(boxC ps).2=(decide (ps≠[]) && rightC ps):=by
 unfold boxC;by_cases h:ps≠[]∧rightC ps=true
 ·rw[if_pos h,decide_eq_true h.1,h.2];rfl
 ·rw[if_neg h];by_cases h1:ps≠[]
  ·have:rightC ps=false:=by
    cases e:rightC ps with
    | false=>rfl
    | true=>exact absurd ⟨h1,e⟩ h
   rw[this,Bool.and_false]
  ·rw[decide_eq_false h1];rfl
theorem box_xy {ps:List Cel}(h:(boxC ps).2=true):(boxC ps).1.x=lo (·.x) ps ps.length∧(boxC ps).1.y=lo (·.y) ps ps.length:=by
 have h2:=box_two ps;rw[h] at h2;have h3:ps≠[]∧rightC ps=true:=by
  have:=h2.symm;rw[Bool.and_eq_true,decide_eq_true_eq] at this;exact this
 rw[← box_eq];unfold boxR;rw[if_pos h3];exact⟨rfl,rfl⟩
def hdrW:List UInt8:=[120,32,61,32,49,48,52,56,53,55,55,44,32,121,32,61,32,49,48,52,56,53,55,55,44,32,114,117,108,101,32,61,32,82,10]
def badName (s:Slot)(w:List UInt8):Bool:=(decide (s.k=1) && !ruleV w) || (decide (s.k=2) && !nmW w)
def namesTo:List Slot→List (List UInt8)→Bool
 | [],_=>true
 | _ :: _,[]=>true
 | s :: ss,w :: ws=>!badName s w && namesTo ss ws
def fillTo:List Slot→List (List UInt8)→Cmd→Option Cmd
 | [],_,c=>some c
 | _ :: _,[],c=>some c
 | s :: ss,w :: ws,c=>if s.k=1∨s.k=2 then fillTo ss ws { c with name:=w } else if s.k=4 then (if (valW w).1 < s.lo∨s.hi < (valW w).1 then none else fillTo ss ws (c.set s.fld (valW w).1)) else fillTo ss ws c
def readC (w:List UInt8):List Cel × Int:=((parseL (hdrW ++ w)).1,(parseL (hdrW ++ w)).2.2)
def runsTo:List Slot→List (List UInt8)→Cmd→Cmd × Int
 | [],_,c=>(c,0)
 | _ :: _,[],c=>(c,0)
 | s :: ss,w :: ws,c=>if s.k=3 then (if (readC w).2≠0 then (cmd0,(readC w).2) else runsTo ss ws { c with cells:=homeC (readC w).1 }) else runsTo ss ws c
def cmdP (f:Form)(ws:List (List UInt8)):Cmd × Int:=
 if namesTo f.slots ws.tail=false then (cmd0,7) else match fillTo f.slots ws.tail { cmd0 with kind:=f.kind } with
  | none=>(cmd0,5)
  | some c=>runsTo f.slots ws.tail c
def rnames:List (List UInt8)→List (List UInt8)→Cmd→Option Cmd
 | [],_,c=>some c
 | _ :: _,[],c=>some c
 | f :: fs,w :: ws,c=>if badName (slotR f) w=true then none else rnames fs ws (if (slotR f).k=1∨(slotR f).k=2 then { c with name:=w } else c)
def rfill:List (List UInt8)→List (List UInt8)→Cmd→Cmd × Int
 | [],_,c=>(c,0)
 | _ :: _,[],c=>(c,0)
 | f :: fs,w :: ws,c=>if (slotR f).k=4 then (if (valW w).1 < (slotR f).lo∨(slotR f).hi < (valW w).1 then (cmd0,5) else rfill fs ws (c.set (slotR f).fld (valW w).1))
  else if (slotR f).k=3 then (if (readC w).2≠0 then (cmd0,(readC w).2) else rfill fs ws { c with cells:=homeC (readC w).1 }) else rfill fs ws c
def rcmdP (k:Int)(ws:List (List UInt8)):Cmd × Int:=
 match rnames (formR k) ws { cmd0 with kind:=k } with
  | none=>(cmd0,7)
  | some c=>rfill (formR k) ws c
theorem rnames_eq:∀ (fs ws:List (List UInt8)) (c:Cmd),(rnames fs ws c=none ↔ namesTo (fs.map slotR) ws=false)
 | [],ws,c=>by simp[rnames,namesTo]
 | f :: fs,[],c=>by simp[rnames,namesTo]
 | f :: fs,w :: ws,c=>by
  rw[rnames,List.map_cons,namesTo];cases h:badName (slotR f) w with
  | true=>simp
  | false=>rw[if_neg Bool.false_ne_true,Bool.not_false,Bool.true_and];exact rnames_eq fs ws _
def nmFill:List Slot→List (List UInt8)→Cmd→Cmd
 | [],_,c=>c
 | _ :: _,[],c=>c
 | s :: ss,w :: ws,c=>nmFill ss ws (if s.k=1∨s.k=2 then { c with name:=w } else c)
def numFill:List Slot→List (List UInt8)→Cmd→Option Cmd
 | [],_,c=>some c
 | _ :: _,[],c=>some c
 | s :: ss,w :: ws,c=>if s.k=4 then (if (valW w).1 < s.lo∨s.hi < (valW w).1 then none else numFill ss ws (c.set s.fld (valW w).1)) else numFill ss ws c
theorem set_name (c:Cmd)(f:Nat)(v:Int)(w:List UInt8):{ c.set f v with name:=w } = ({ c with name:=w }:Cmd).set f v:=by
 unfold Cmd.set
 repeat' split
 all_goals rfl
theorem nmFill_set:∀ (ss:List Slot)(ws:List (List UInt8)) (c:Cmd)(f:Nat)(v:Int),nmFill ss ws (c.set f v)=(nmFill ss ws c).set f v
 | [],ws,c,f,v=>by simp only[nmFill]
 | s :: ss,[],c,f,v=>by simp only[nmFill]
 | s :: ss,w :: ws,c,f,v=>by
  rw[nmFill,nmFill];by_cases h:s.k=1∨s.k=2
  ·rw[if_pos h,if_pos h,set_name];exact nmFill_set ss ws _ f v
  ·rw[if_neg h,if_neg h];exact nmFill_set ss ws c f v
theorem fillTo_two:∀ (ss:List Slot)(ws:List (List UInt8)) (c:Cmd),fillTo ss ws c=numFill ss ws (nmFill ss ws c)
 | [],ws,c=>by simp only[fillTo,numFill,nmFill]
 | s :: ss,[],c=>by simp only[fillTo,numFill,nmFill]
 | s :: ss,w :: ws,c=>by
  rw[fillTo,numFill,nmFill];by_cases h:s.k=1∨s.k=2
  ·rw[if_pos h,if_pos h,if_neg (by omega)];exact fillTo_two ss ws _
  ·rw[if_neg h,if_neg h];by_cases h4:s.k=4
   ·rw[if_pos h4,if_pos h4];by_cases hr:(valW w).1 < s.lo∨s.hi < (valW w).1
    ·rw[if_pos hr,if_pos hr]
    ·rw[if_neg hr,if_neg hr,fillTo_two ss ws _,nmFill_set]
   ·rw[if_neg h4,if_neg h4];exact fillTo_two ss ws c
theorem rnames_some:∀ (fs ws:List (List UInt8)) (c c':Cmd),rnames fs ws c=some c'→c'=nmFill (fs.map slotR) ws c
 | [],ws,c,c',h=>by rw[rnames] at h;injection h with h;rw[← h];simp only[List.map_nil,nmFill]
 | f :: fs,[],c,c',h=>by rw[rnames] at h;injection h with h;rw[← h];simp only[List.map_cons,nmFill]
 | f :: fs,w :: ws,c,c',h=>by
  rw[rnames] at h;by_cases hb:badName (slotR f) w=true
  ·rw[if_pos hb] at h;cases h
  ·rw[if_neg hb] at h;rw[List.map_cons,nmFill];exact rnames_some fs ws _ c' h
theorem runs_no:∀ (ss:List Slot)(ws:List (List UInt8)) (c:Cmd),(∀ s ∈ ss,s.k≠3)→runsTo ss ws c=(c,0)
 | [],ws,c,_=>by simp only[runsTo]
 | s :: ss,[],c,_=>by simp only[runsTo]
 | s :: ss,w :: ws,c,h=>by
  rw[runsTo,if_neg (h s List.mem_cons_self)];exact runs_no ss ws c fun x hx=>h x (List.mem_cons_of_mem _ hx)
theorem num_no:∀ (ss:List Slot)(ws:List (List UInt8)) (c:Cmd),(∀ s ∈ ss,s.k≠4)→numFill ss ws c=some c
 | [],ws,c,_=>by simp only[numFill]
 | s :: ss,[],c,_=>by simp only[numFill]
 | s :: ss,w :: ws,c,h=>by
  rw[numFill,if_neg (h s List.mem_cons_self)];exact num_no ss ws c fun x hx=>h x (List.mem_cons_of_mem _ hx)
theorem rfill_no3:∀ (fs ws:List (List UInt8)) (c:Cmd),(∀ f ∈ fs,(slotR f).k≠3)→rfill fs ws c=match numFill (fs.map slotR) ws c with | none=>(cmd0,5) | some c=>(c,0)
 | [],ws,c,_=>by simp only[rfill,List.map_nil,numFill]
 | f :: fs,[],c,_=>by simp only[rfill,List.map_cons,numFill]
 | f :: fs,w :: ws,c,h=>by
  have ih:=fun c=>rfill_no3 fs ws c fun x hx=>h x (List.mem_cons_of_mem _ hx);rw[rfill,List.map_cons,numFill];by_cases h4:(slotR f).k=4
  ·rw[if_pos h4,if_pos h4];by_cases hr:(valW w).1 < (slotR f).lo∨(slotR f).hi < (valW w).1
   ·rw[if_pos hr,if_pos hr]
   ·rw[if_neg hr,if_neg hr,ih]
  ·rw[if_neg h4,if_neg h4,if_neg (h f List.mem_cons_self),ih]
theorem rfill_no4:∀ (fs ws:List (List UInt8)) (c:Cmd),(∀ f ∈ fs,(slotR f).k≠4)→rfill fs ws c=runsTo (fs.map slotR) ws c
 | [],ws,c,_=>by simp only[rfill,List.map_nil,runsTo]
 | f :: fs,[],c,_=>by simp only[rfill,List.map_cons,runsTo]
 | f :: fs,w :: ws,c,h=>by
  have ih:=fun c=>rfill_no4 fs ws c fun x hx=>h x (List.mem_cons_of_mem _ hx);rw[rfill,List.map_cons,runsTo,if_neg (h f List.mem_cons_self)];by_cases h3:(slotR f).k=3
  ·rw[if_pos h3,if_pos h3];by_cases hr:(readC w).2≠0
   ·rw[if_pos hr,if_pos hr]
   ·rw[if_neg hr,if_neg hr,ih]
  ·rw[if_neg h3,if_neg h3,ih]
theorem form_shape {k:Int}(hk:k ∈ kinds12):∃ f fs,formR k=f :: fs∧(slotR f).k=0∧((∀ f ∈ formR k,(slotR f).k≠3)∨(∀ f ∈ formR k,(slotR f).k≠4))∧(∀ f ∈ formR k,(slotR f).k=0→(slotR f).text=f)∧(∀ f ∈ formR k,(slotR f).k≤4):=by
 simp only[kinds12,List.mem_cons,List.not_mem_nil,or_false] at hk;rcases hk with rfl | rfl | rfl | rfl | rfl | rfl | rfl | rfl | rfl | rfl | rfl | rfl <;> exact⟨_,_,rfl,rfl,by decide,by decide,by decide⟩
theorem rcmd_eq {k:Int}(hk:k ∈ kinds12){ws:List (List UInt8)} (hl:ws.length=(formR k).length):rcmdP k ws=cmdP (formK k) ws:=by
 obtain⟨f,fs,ef,h0,h34,-,-⟩:=form_shape hk;have es:(formK k).slots=fs.map slotR:=by unfold formK;rw[ef];rfl
 have ek:(formK k).kind=k:=rfl;cases ws with
 | nil=>rw[ef] at hl;simp at hl
 | cons w ws=>
  unfold rcmdP cmdP;rw[es,ek,List.tail_cons];have e7:=rnames_eq (formR k) (w :: ws) { cmd0 with kind:=k };rw[ef,List.map_cons,namesTo] at e7;have hb:badName (slotR f) w=false:=by unfold badName;rw[h0];rfl
  rw[hb,Bool.not_false,Bool.true_and] at e7;cases hr:rnames (formR k) (w :: ws) { cmd0 with kind:=k } with
  | none=>
   rw[ef] at hr;rw[if_pos (e7.1 hr)]
  | some c=>
   have hn:=rnames_some _ _ _ _ hr;rw[ef] at hr;rw[if_neg (by intro h;rw[e7.2 h] at hr;cases hr),fillTo_two];rw[ef,List.map_cons,nmFill,if_neg (by omega)] at hn;rw[← hn];dsimp only;rw[ef] at h34;rcases h34 with h3 | h4
   ·rw[rfill_no3 _ _ _ (by rw[ef];exact h3),ef,List.map_cons,numFill,if_neg (by omega)];cases hq:numFill (fs.map slotR) ws c with
    | none=>rfl
    | some c2=>
     dsimp only;rw[runs_no];intro s hs;obtain⟨g,hg,rfl⟩:=List.mem_map.1 hs;exact h3 g (List.mem_cons_of_mem _ hg)
   ·rw[rfill_no4 _ _ _ (by rw[ef];exact h4),ef,List.map_cons,runsTo,if_neg (by omega),num_no];intro s hs;obtain⟨g,hg,rfl⟩:=List.mem_map.1 hs;exact h4 g (List.mem_cons_of_mem _ hg)
def rgtTo:List Slot→Cmd→Cmd→Option Cmd
 | [],c,r=>some r
 | s :: ss,c,r=>if s.k=1∨s.k=2 then (if badName s c.name=true then none else rgtTo ss c { r with name:=[] }) else if s.k=3 then (if homedB c.cells=true then rgtTo ss c { r with cells:=[] } else none) else if s.k=4 then (if c.get s.fld < s.lo∨s.hi < c.get s.fld then none else rgtTo ss c (r.set s.fld 0)) else rgtTo ss c r
def emptyC (r:Cmd):Bool:=decide (r.x=0) && decide (r.y=0) && decide (r.n=0) && decide (r.m=0) && decide (r.name=[]) && decide (r.cells=[]) && (decide (r.p=0) && decide (r.dx=0) && decide (r.dy=0))
def kindF (k:Int):Option Form:=formsP.find? fun f=>decide (f.kind=k)
def rightP (c:Cmd):Bool:=match kindF c.kind with
 | none=>false
 | some f=>match rgtTo f.slots c { c with kind:=0 } with
  | none=>false
  | some r=>emptyC r
theorem set_cells0 (c:Cmd)(f:Nat)(v:Int):(c.set f v).cells=c.cells:=by
 unfold Cmd.set
 repeat' split
 all_goals rfl
def runW (t:List UInt8):List UInt8:=(afterLine t).filter (fun c=>c != 10)
def lineTo:List Slot→Cmd→List (List UInt8)→List (List UInt8) × Int
 | [],c,a=>(a,0)
 | s :: ss,c,a=>if s.k=0 then lineTo ss c (a ++ [s.text]) else if s.k=1∨s.k=2 then lineTo ss c (a ++ [c.name]) else if s.k=3 then (if (textL c.cells [82]).2≠0 then ([],(textL c.cells [82]).2) else lineTo ss c (a ++ [runW (textL c.cells [82]).1])) else if s.k=4 then lineTo ss c (a ++ [Lib.itoa (c.get s.fld)]) else lineTo ss c a
def joinW:List (List UInt8)→List UInt8
 | []=>[]
 | w :: ws=>ws.foldl (fun s x=>s ++ ([32] ++ x)) w
def lineP (c:Cmd):List UInt8 × Int:=if rightP c=false then ([],2) else match kindF c.kind with
 | none=>([],2)
 | some f=>if (lineTo f.slots c [f.word]).2≠0 then ([],(lineTo f.slots c [f.word]).2) else (joinW (lineTo f.slots c [f.word]).1,0)
theorem joinW_snoc {a:List (List UInt8)} (h:a≠[])(w:List UInt8):joinW (a ++ [w])=joinW a ++ ([32] ++ w):=by
 cases a with
 | nil=>exact absurd rfl h
 | cons b l=>show (l ++ [w]).foldl _ b=_;rw[List.foldl_append];rfl
end Go.Proofs.YtcfelnhmifkelaaGreatDoor
