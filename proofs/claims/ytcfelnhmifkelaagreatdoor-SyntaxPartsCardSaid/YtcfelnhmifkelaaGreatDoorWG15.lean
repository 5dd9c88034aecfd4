/-
  texts Spl56 Rsp56 Lim56 Get56 Set56 Kof56P HomP CmdP: parts of the proof; conditions stand with each theorem.
-/
import Derived.Test.YtcfelnhmifkelaaGreatDoorWG14
import Derived.Test.YtcfelnhmifkelaaGreatDoorWG9
import Derived.Test.YtcfelnhmifkelaaGreatDoorWG1
import Derived.Test.YtcfelnhmifkelaaGreatDoorWG13
import Derived.Test.YtcfelnhmifkelaaGreatDoorWG3
namespace Go.Proofs.YtcfelnhmifkelaaGreatDoor
open Lib(hid)
open Go.RowKit
set_option maxRecDepth 100000
set_option linter.unusedVariables false
set_option linter.unusedSimpArgs false
attribute [local go_sem] Oper.semAt_some
def SI (w:World)(R:Nat)(pre:List ByteArray)(W:World):Prop:=
 ∃ v bs,Blk W R 44 #[v]∧OwnS 9 W (R+4) v bs∧Below R w W∧Hid (WrdS (pre.map (·.data.toList)) (wdL bs)∧bs.length≤pre.length)
def SX (w:World)(R:Nat)(pre:List ByteArray)(W:World):Prop:=
 ∃ v bs,Blk W R 44 #[v]∧OwnS 9 W (R+4) v bs∧Below R w W∧Hid (∀ rest,wordsTo (pre.map (·.data.toList) ++ rest)=wdL bs)
theorem SI.from_ {w:World}{R B:Nat}(hR:R≤w.heap.size)(hB:R≤B):OwnFrom B (SI w R):=by
 rintro s W W' row ⟨v,bs,h1,h5,h6,h7⟩ hg hr;exact⟨v,bs,blk_own h1 hg hr,ownS_own h5 hg hr,h6.grown hg (Nat.le_trans hR h6.size) (fun k e=>Nat.le_trans hB (hr k e).1),h7⟩
theorem SX.from_ {w:World}{R B:Nat}(hR:R≤w.heap.size)(hB:R≤B):OwnFrom B (SX w R):=by
 rintro s W W' row ⟨v,bs,h1,h5,h6,h7⟩ hg hr;exact⟨v,bs,blk_own h1 hg hr,ownS_own h5 hg hr,h6.grown hg (Nat.le_trans hR h6.size) (fun k e=>Nat.le_trans hB (hr k e).1),h7⟩
theorem SI.spare {w:World}{R:Nat}:Spare (R+1) (SI w R):=by
 rintro s W u ⟨v,bs,h1,h5,h6,h7⟩;exact⟨v,bs,h1.far (p:=⟨R+1,0,none⟩) (by simp) u,ownS_set h5 (by omega),h6.setCell (p:=⟨R+1,0,none⟩) (by simp) u,h7⟩
def RetWs (ws:List (List UInt8)) (w:World)(e:Ending)(w':World):Prop:=∃ A c bs,e=.returned (.slice A bs.length c)∧Sts w' A bs∧wdL bs=ws∧bs.length≤70001∧Below w.heap.size w w'
theorem str_nil56 (b:ByteArray):(b.toList == [])=decide (b.data.toList=[]):=by
 have h:=str_eq2 b ⟨#[]⟩;rw[ByteArray.toList_eq (⟨#[]⟩:ByteArray)] at h;exact h
theorem words_few (ps:List (List UInt8)):(wordsTo ps).length≤ps.length:=by
 induction ps with
 | nil=>exact Nat.le_refl _
 | cons p ps ih=>
  show (if hashB p then [] else if p=[] then wordsTo ps else p :: wordsTo ps).length≤_
  split
  ·exact Nat.zero_le _
  ·split
   ·exact Nat.le_succ_of_le ih
   ·exact Nat.succ_le_succ ih
theorem split_few:∀ l:List UInt8,(splitC 32 l).length≤l.length+1
 | []=>Nat.le_refl _
 | a :: l=>by
  have ih:=split_few l;rw[splitC]
  split
  ·exact Nat.succ_le_succ ih
  ·split
   ·simp
   ·rename_i p ps e;rw[e] at ih;simp only[List.length_cons] at ih ⊢;omega
set_option maxHeartbeats 4000000 in
theorem split56_any (s:ByteArray)(w:World)(hs:s.size≤70000):Calls Tryz.prog 26 #[.string s] w (RetWs (wordsOf s.data.toList) w):=by
 have hS:=fun w=>(callsIn_wide (n:=8)).2 (SplitSeq_any s w);obtain⟨ws,hws⟩:∃ ws,ws=wordsOf s.data.toList:=⟨_,rfl⟩
 rw[← hws];have HWL:Hid (ws.length≤70001):=hid (by rw[hws];unfold wordsOf;exact Nat.le_trans (words_few _) (Nat.le_trans (split_few _) (Nat.succ_le_succ hs)));have HTS:Hid (∀ ls,Parts56 s ls→wordsTo (ls.map (·.data.toList))=ws):=hid (fun ls h=>by rw[hws];unfold wordsOf;rw[h.split]);clear hws;refine callsIn_wide (n:=9) |>.1 ?_
 refine callsIn_of_wp_marks Tryz.func26 rfl trivial ?_ rfl;simp only[Tryz.ntmps26,List.size_toArray,List.length_cons,List.length_nil,Nat.reduceAdd,Nat.reduceSub,Array.replicate_succ,Array.replicate_zero,List.push_toArray,List.append_toArray,List.nil_append,List.cons_append]
 gi_wp2
 refine⟨trivial,(hS _).mono ?_⟩;rintro e w1 ⟨rfl,hw1⟩;have hw2:=hw1.symm;clear hw1;subst hw2
 gi_wp2
 obtain⟨W4,hW4⟩:∃ W4,W4=w.alloc (.cells #[.slice none 0 0] 44):=⟨_,rfl⟩
 have hz4:W4.heap.size=w.heap.size+1:=by rw[hW4];simp
 have hB0:Below w.heap.size w W4:=by rw[hW4];exact (Below.refl _ w).alloc (Nat.le_refl _) _
 have k0:Blk W4 w.heap.size 44 #[.slice none 0 0]:=by rw[hW4];exact Blk.new w _ _
 rw[← hW4];clear hW4;have b1:Blk (boxes s W4) (w.heap.size+1) 9 #[.string s]:=by rw[← hz4];exact ((Blk.new W4 _ _).alloc _).alloc _
 have b2:Blk (boxes s W4) (w.heap.size+1+1) 9 #[.string ⟨#[32]⟩]:=by
  have h:=Blk.new (W4.alloc (.cells #[.string s] 9)) 9 #[.string ⟨#[32]⟩];rw[World.size_alloc,hz4] at h;exact h.alloc _
 have b3:Blk (boxes s W4) (w.heap.size+1+1+1) 3 #[.int .i64 0]:=by
  have h:=Blk.new ((W4.alloc (.cells #[.string s] 9)).alloc (.cells #[.string ⟨#[32]⟩] 9)) 3 #[.int .i64 0];rw[World.size_alloc,World.size_alloc,hz4] at h;exact h
 have hz7:(boxes s W4).heap.size=w.heap.size+4:=by unfold boxes;simp[hz4]
 have hB7:Below w.heap.size w (boxes s W4):=((hB0.alloc (by omega) _).alloc (by simp;omega) _).alloc (by simp;omega) _;have HI0:SI w w.heap.size [] (boxes s W4):=⟨.slice none 0 0,[],((k0.alloc _).alloc _).alloc _,OwnS.nil _ _ _,hB7,hid ⟨WrdS.start,Nat.le_refl _⟩⟩
 have hsq:=parts_any s hs (w.heap.size+1) (boxes s W4) b1 b2 b3;obtain⟨W7,hW7⟩:∃ W7,W7=boxes s W4:=⟨_,rfl⟩
 rw[← hW7] at hsq hB7 HI0 hz7 ⊢;clear hW7 b1 b2 b3 k0 hB0 hz4 hS;refine wpIn_rangeBox (id:=0) (gf:=132) (lb:=#[.pointer (some ⟨w.heap.size+1+1,0,none⟩),.pointer (some ⟨w.heap.size+1,0,none⟩),.pointer (some ⟨w.heap.size+1+2,0,none⟩)]) rfl (enters_of Tryz.func132 (by kernel_rfl) rfl) hsq (Below.refl _ _) (by omega) (by omega) rfl
  (SI w w.heap.size) (SX w w.heap.size) (SI.from_ (Nat.le_refl _) (by omega)) (SX.from_ (Nat.le_refl _) (by omega)) SI.spare HI0
  (fun x=>{ tmps:=#[.string s,undef,.slice none 0 0,.pointer (some ⟨w.heap.size,0,none⟩),.string x,.string s,seqAt (w.heap.size+1),.string x,undef,undef,undef,undef,undef,undef,undef,undef,undef],defers:=[] }) ?assign ?body ?done ?stop
 case assign=>
  intro l x W K hK
  gi_wp2
  exact hK
 case body=>
  clear hsq HI0 hB7 HTS;rintro l pre x W hWs ⟨v,bs,h1,h5,h6,H7⟩ hOk;have hlen:bs.length < 4294967296:=by have:=H7.out.2;unfold Fits at hOk;omega
  have hbs:w.heap.size+4≤W.heap.size:=by omega
  have hP:=fun w=>(callsIn_wide (n:=6)).2 (Tryz.strings_HasPrefix x ⟨#[35]⟩ w);have e35:(⟨#[35]⟩:ByteArray).data.toList=[35]:=rfl;rw[e35,pre35] at hP;clear e35 hOk;have dn:=str_nil56 x;have c0:=h1.cell 0;have f0:=h1.frozen 0;cases hpx:hashB x.data.toList with
  | true=>
   rw[hpx] at hP;have HM:Hid (∀ rest,wordsTo ((pre ++ [x]).map (·.data.toList) ++ rest)=wdL bs):=hid (fun rest=>by rw[List.map_append];exact H7.out.1.hash hpx rest);clear hpx dn
   gi_wp2
   refine⟨trivial,CallsIn.inRound l ((hP _).mono ?_)⟩;rintro e w1 ⟨rfl,hw1⟩;have hw2:=hw1.symm;clear hw1;subst hw2
   gi_wp2
   exact⟨rfl,KeepsOthers.refl _,v,bs,h1,h5,h6,HM⟩
  | false=>
   rw[hpx] at hP;have HPX:=hid hpx;clear hpx;by_cases hx:x.data.toList=[]
   ·rw[decide_eq_true hx] at dn;have HM:Hid (WrdS ((pre ++ [x]).map (·.data.toList)) (wdL bs)∧bs.length≤(pre ++ [x]).length):=hid ⟨by rw[List.map_append];show WrdS (_ ++ [x.data.toList]) _;rw[hx];exact H7.out.1.skip,by rw[List.length_append];exact Nat.le_add_right_of_le H7.out.2⟩;clear hx
    gi_wp2
    refine⟨trivial,CallsIn.inRound l ((hP _).mono ?_)⟩;rintro e w1 ⟨rfl,hw1⟩;have hw2:=hw1.symm;clear hw1;subst hw2
    gi_wp2
    exact⟨KeepsOthers.refl _,Held.refl _ _ _,v,bs,h1,h5,h6,HM⟩
   ·rw[decide_eq_false hx] at dn;have HM:Hid (WrdS ((pre ++ [x]).map (·.data.toList)) (wdL (bs ++ [x]))∧(bs ++ [x]).length≤(pre ++ [x]).length):=hid ⟨by rw[List.map_append];unfold wdL;rw[List.map_append];exact H7.out.1.word HPX.out hx,by rw[List.length_append,List.length_append];exact Nat.add_le_add_right H7.out.2 _⟩;clear hx
    gi_wp2
    refine⟨trivial,CallsIn.inRound l ((hP _).mono ?_)⟩;rintro e w1 ⟨rfl,hw1⟩;have hw2:=hw1.symm;clear hw1;subst hw2
    gi_wp2_with (gi_at_builtin;refine wpListIn_pushS rfl _ _ _ rfl (w.heap.size+4) 9 (by kernel_rfl) Tryz.infoString _ _ rfl h5 _ rfl hlen hbs ?_)
    intro v2 w9 ho9 hb9 hko9 hsz9 hbl9;have h1':=hbl9 _ _ _ (by decide) h1;clear c0 f0;have c0:=h1'.cell 0;have f0:=h1'.frozen 0;have HO9:=hid ho9;obtain⟨A9,c9,hv9,-,-⟩:=ho9.sts;rw[List.length_append,List.length_singleton] at hv9;subst hv9
    gi_wp2
    exact⟨hko9.trans (KeepsOthers.setCell _ _ _),((Held.refl _ _ _).below hb9 (by omega)).setCell (p:=⟨w.heap.size,0,none⟩) (by simp <;> omega) _,_,_,h1'.set_ 0 _,ownS_set HO9.out (by omega),(h6.trans (hb9.mono (by omega))).setCell (p:=⟨w.heap.size,0,none⟩) (by simp <;> omega) _,HM⟩
 case done=>
  clear hsq HI0;rintro D ys W hD hS ⟨v,bs,h1,h5,h6,H7⟩ hK;have HR:Hid (wdL bs=ws):=hid (H7.out.1.done.symm.trans (HTS.out ys hS));have hDR:w.heap.size+4≤D:=by omega
  have c0:=h1.cell 0;have f0:=h1.frozen 0;clear hS;have HO:=hid h5;obtain⟨A,c,hv,-,-⟩:=h5.sts;subst hv
  gi_wp2
  refine⟨by simp,.inl ⟨_,_,rfl,run_takeDeferred hK,?_⟩⟩;have hO2:OwnS 9 (W.putObj D (.deferred none)) (w.heap.size+4) (.slice A bs.length c) bs:=ownsRow_putObj HO.out _ hK rfl;obtain⟨A',c',hv',hcl,-⟩:=hO2.sts;injection hv' with hA' _ hc'
  subst hA' hc';refine⟨.slice A bs.length c,?_,A,c,bs,rfl,hcl,HR.out,?_,h6.trans (belowK_b (w:=w) (Nat.le_refl _) _ D _ _ (by omega) hK rfl rfl)⟩
  ·simp[results,Tryz.f26,go_sem]
  ·have h:=HWL.out;rw[← HR.out] at h;unfold wdL at h;rw[List.length_map] at h;exact h
 case stop=>
  clear hsq HI0;rintro D pre rest W hD hS ⟨v,bs,h1,h5,h6,H7⟩ hK;have HR:Hid (wdL bs=ws):=hid (by have h:=HTS.out _ hS;rw[List.map_append,H7.out] at h;exact h);have hDR:w.heap.size+4≤D:=by omega
  have c0:=h1.cell 0;have f0:=h1.frozen 0;clear hS;have HO:=hid h5;obtain⟨A,c,hv,-,-⟩:=h5.sts;subst hv
  gi_wp2
  refine⟨by simp,.inl ⟨_,_,rfl,run_takeDeferred hK,?_⟩⟩;have hO2:OwnS 9 (W.putObj D (.deferred none)) (w.heap.size+4) (.slice A bs.length c) bs:=ownsRow_putObj HO.out _ hK rfl;obtain⟨A',c',hv',hcl,-⟩:=hO2.sts;injection hv' with hA' _ hc'
  subst hA' hc';refine⟨.slice A bs.length c,?_,A,c,bs,rfl,hcl,HR.out,?_,h6.trans (belowK_b (w:=w) (Nat.le_refl _) _ D _ _ (by omega) hK rfl rfl)⟩
  ·simp[results,Tryz.f26,go_sem]
  ·have h:=HWL.out;rw[← HR.out] at h;unfold wdL at h;rw[List.length_map] at h;exact h
end Go.Proofs.YtcfelnhmifkelaaGreatDoor
namespace Go.Proofs.YtcfelnhmifkelaaGreatDoor
open Go.RowKit
set_option maxRecDepth 100000
set_option linter.unusedVariables false
set_option linter.unusedSimpArgs false
theorem wpList_pushS {P:Program}{wr:World}{ops:Array Oper}{rest:List Oper}{o:Oper}{a:Act}{Q:Exit→Act→World→Prop}(hgd:o.guard=none)(s x:Operand)(t:TypeId)
  (ho:o.op=.call { callee:=.builtin .append,args:=#[s,x],argTypes:=#[t,t] })
  (base:Nat) (e:TypeId) (ht:P.underlying t=some (.slice e)) (hi:(P.info? e).map (fun i=>(i.zero,i.size,i.bytes))=some (some (.string ⟨#[]⟩),1,16))
  (v:Value) (bs:List ByteArray) (hs:a.eval s=v) (hown:OwnS e wr base v bs)
  (b:ByteArray) (hx:a.eval x=.slice (some ⟨wr.heap.size,0,none⟩) 1 1)
  (hn:bs.length < 4294967296) (hbase:base≤wr.heap.size)
  (h:∀ v' w',OwnS e w' base v' (bs ++ [b])→Below base wr w'→wpList P ops Q rest (a.put o.dst v') w') :
  wpList P ops Q (o :: rest) a (wr.alloc (.cells #[.string b] e)):=
 wpList_push hgd s x t ho base e _ 1 16 ht hi rfl (by decide) v bs.length _ hs hown [.string b] rfl hx (by simp[Value.oneCell']) (by unfold maxLen;omega) (by omega) hbase
  (fun v' w' h1 h2=>h v' w' (by unfold OwnS;rw[List.length_append,List.map_append];exact h1) h2)
theorem piece_toList (s:ByteArray){i j:Nat}(hij:i≤j)(hj:j≤s.size):(s.extract i j).data.toList=(s.data.toList.take j).drop i:=by
 rw[ByteArray.data_extract,Array.toList_extract,List.extract_eq_take_drop,List.drop_take]
theorem OwnS.cap {T:TypeId}{w:World}{base:Nat}{v:Value}{bs:List ByteArray}{A:Option Addr}{n c:Nat}(h:OwnS T w base v bs)(hv:v=.slice A n c):bs.length≤c:=by
 rcases h.2 with ⟨e,h0⟩ | ⟨g,cap,cur,e,h1,h2,h3,h4⟩
 ·omega
 ·rw[hv] at e;injection e with e1 e2 e3
  omega
def cmdV (c:Cmd)(nm:ByteArray)(cv:Value):Value:=.agg #[.int .i64 c.kind,.int .i64 c.x,.int .i64 c.y,.int .i64 c.n,.int .i64 c.m,.string nm,cv,.int .i64 c.p,.int .i64 c.dx,.int .i64 c.dy]
theorem Tryz.sizeCommand:(Tryz.prog.info? 34).map (·.size)=some 10:=by kernel_rfl
end Go.Proofs.YtcfelnhmifkelaaGreatDoor
namespace Go.Proofs.YtcfelnhmifkelaaGreatDoor
set_option linter.unusedSimpArgs false
set_option linter.unusedVariables false
def formOf (ws:List (List UInt8)):Option Form:=formsP.find? fun f=>fitsP f ws
end Go.Proofs.YtcfelnhmifkelaaGreatDoor
namespace Go.Proofs.YtcfelnhmifkelaaGreatDoor
open Go.RowKit
set_option maxRecDepth 100000
set_option linter.unusedVariables false
set_option linter.unusedSimpArgs false
def mvC (x y:Int)(c:Cel):Cel:=⟨c.x - x,c.y - y,c.s⟩
def homeC (ps:List Cel):List Cel:=if (boxC ps).2=true then ps.map (mvC (boxC ps).1.x (boxC ps).1.y) else ps
def homedB (ps:List Cel):Bool:=rightC ps && !((boxC ps).2 && (decide ((boxC ps).1.x≠0) || decide ((boxC ps).1.y≠0)))
theorem box_two (ps:List Cel):(boxC ps).2=(decide (ps≠[]) && rightC ps):=by
 unfold boxC;by_cases h:ps≠[]∧rightC ps=true
 ·rw[if_pos h,decide_eq_true h.1,h.2];rfl
 ·rw[if_neg h];by_cases h1:ps≠[]
  ·have:rightC ps=false:=by
    cases e:rightC ps with
    | false=>rfl
    | true=>exact absurd ⟨h1,e⟩ h
   rw[this,Bool.and_false]
  ·rw[decide_eq_false h1];rfl
theorem box_xy {ps:List Cel}(h:(boxC ps).2=true):(boxC ps).1.x=lo (·.x) ps ps.length∧(boxC ps).1.y=lo (·.y) ps ps.length:=by
 have h2:=box_two ps;rw[h] at h2;have h3:ps≠[]∧rightC ps=true:=by
  have:=h2.symm;rw[Bool.and_eq_true,decide_eq_true_eq] at this;exact this
 rw[← box_eq];unfold boxR;rw[if_pos h3];exact⟨rfl,rfl⟩
def hdrW:List UInt8:=[120,32,61,32,49,48,52,56,53,55,55,44,32,121,32,61,32,49,48,52,56,53,55,55,44,32,114,117,108,101,32,61,32,82,10]
def badName (s:Slot)(w:List UInt8):Bool:=(decide (s.k=1) && !ruleV w) || (decide (s.k=2) && !nmW w)
def namesTo:List Slot→List (List UInt8)→Bool
 | [],_=>true
 | _ :: _,[]=>true
 | s :: ss,w :: ws=>!badName s w && namesTo ss ws
def fillTo:List Slot→List (List UInt8)→Cmd→Option Cmd
 | [],_,c=>some c
 | _ :: _,[],c=>some c
 | s :: ss,w :: ws,c=>if s.k=1∨s.k=2 then fillTo ss ws { c with name:=w } else if s.k=4 then (if (valW w).1 < s.lo∨s.hi < (valW w).1 then none else fillTo ss ws (c.set s.fld (valW w).1)) else fillTo ss ws c
def readC (w:List UInt8):List Cel × Int:=((parseL (hdrW ++ w)).1,(parseL (hdrW ++ w)).2.2)
def runsTo:List Slot→List (List UInt8)→Cmd→Cmd × Int
 | [],_,c=>(c,0)
 | _ :: _,[],c=>(c,0)
 | s :: ss,w :: ws,c=>if s.k=3 then (if (readC w).2≠0 then (cmd0,(readC w).2) else runsTo ss ws { c with cells:=homeC (readC w).1 }) else runsTo ss ws c
def cmdP (f:Form)(ws:List (List UInt8)):Cmd × Int:=
 if namesTo f.slots ws.tail=false then (cmd0,7) else match fillTo f.slots ws.tail { cmd0 with kind:=f.kind } with
  | none=>(cmd0,5)
  | some c=>runsTo f.slots ws.tail c
def rgtTo:List Slot→Cmd→Cmd→Option Cmd
 | [],c,r=>some r
 | s :: ss,c,r=>if s.k=1∨s.k=2 then (if badName s c.name=true then none else rgtTo ss c { r with name:=[] }) else if s.k=3 then (if homedB c.cells=true then rgtTo ss c { r with cells:=[] } else none) else if s.k=4 then (if c.get s.fld < s.lo∨s.hi < c.get s.fld then none else rgtTo ss c (r.set s.fld 0)) else rgtTo ss c r
def emptyC (r:Cmd):Bool:=decide (r.x=0) && decide (r.y=0) && decide (r.n=0) && decide (r.m=0) && decide (r.name=[]) && decide (r.cells=[]) && (decide (r.p=0) && decide (r.dx=0) && decide (r.dy=0))
def kindF (k:Int):Option Form:=formsP.find? fun f=>decide (f.kind=k)
def rightP (c:Cmd):Bool:=match kindF c.kind with
 | none=>false
 | some f=>match rgtTo f.slots c { c with kind:=0 } with
  | none=>false
  | some r=>emptyC r
theorem set_cells0 (c:Cmd)(f:Nat)(v:Int):(c.set f v).cells=c.cells:=by
 unfold Cmd.set
 repeat' split
 all_goals rfl
def runW (t:List UInt8):List UInt8:=(afterLine t).filter (fun c=>c != 10)
def lineTo:List Slot→Cmd→List (List UInt8)→List (List UInt8) × Int
 | [],c,a=>(a,0)
 | s :: ss,c,a=>if s.k=0 then lineTo ss c (a ++ [s.text]) else if s.k=1∨s.k=2 then lineTo ss c (a ++ [c.name]) else if s.k=3 then (if (textL c.cells [82]).2≠0 then ([],(textL c.cells [82]).2) else lineTo ss c (a ++ [runW (textL c.cells [82]).1])) else if s.k=4 then lineTo ss c (a ++ [Lib.itoa (c.get s.fld)]) else lineTo ss c a
def joinW:List (List UInt8)→List UInt8
 | []=>[]
 | w :: ws=>ws.foldl (fun s x=>s ++ ([32] ++ x)) w
def lineP (c:Cmd):List UInt8 × Int:=if rightP c=false then ([],2) else match kindF c.kind with
 | none=>([],2)
 | some f=>if (lineTo f.slots c [f.word]).2≠0 then ([],(lineTo f.slots c [f.word]).2) else (joinW (lineTo f.slots c [f.word]).1,0)
theorem joinW_snoc {a:List (List UInt8)} (h:a≠[])(w:List UInt8):joinW (a ++ [w])=joinW a ++ ([32] ++ w):=by
 cases a with
 | nil=>exact absurd rfl h
 | cons b l=>show (l ++ [w]).foldl _ b=_;rw[List.foldl_append];rfl
end Go.Proofs.YtcfelnhmifkelaaGreatDoor
