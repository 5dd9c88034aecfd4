/-
  texts Line56: parts of the proof; conditions stand with each theorem.
-/
import Derived.Test.YtcfelnhmifkelaaGreatDoorURight56
import Derived.Test.YtcfelnhmifkelaaGreatDoorUG25
import Derived.Test.YtcfelnhmifkelaaGreatDoorUG21
import Derived.Test.YtcfelnhmifkelaaGreatDoorUG5
import Derived.Test.YtcfelnhmifkelaaGreatDoorUG20
namespace Go.Proofs.YtcfelnhmifkelaaGreatDoor
open Lib(hid)
open Go.RowKit
set_option maxRecDepth 100000
set_option linter.unusedVariables false
set_option linter.unusedSimpArgs false
theorem ret_se {r:List UInt8 × Int}{a:List UInt8}{e:Int}(h:r=(a,e)):(Ending.returned (.tuple #[.string ⟨a.toArray⟩,.int .i64 e]))=Ending.returned (.tuple #[.string ⟨r.1.toArray⟩,.int .i64 r.2]):=by rw[h]
theorem wdL_snoc (bs:List ByteArray)(b:ByteArray):wdL (bs ++ [b])=wdL bs ++ [b.data.toList]:=by unfold wdL;rw[List.map_append];rfl
def finL (t:List (List UInt8) × Int):List UInt8 × Int:=if t.2≠0 then ([],t.2) else (joinW t.1,0)
def finM (c:Cmd):Option Form→List UInt8 × Int
 | none=>([],2)
 | some f=>finL (lineTo f.slots c [f.word])
theorem line_fin {c:Cmd}(h:rightP c=true):lineP c=finM c (kindF c.kind):=by
 unfold lineP;rw[if_neg (by rw[h];simp)];cases kindF c.kind <;> rfl
theorem lineTo_at {ss:List Slot}{k:Nat}(h1:k < ss.length)(c:Cmd)(a:List (List UInt8)):lineTo (ss.drop k) c a=if ss[k].k=0 then lineTo (ss.drop (k+1)) c (a ++ [ss[k].text]) else if ss[k].k=1∨ss[k].k=2 then lineTo (ss.drop (k+1)) c (a ++ [c.name]) else if ss[k].k=3 then (if (textL c.cells [82]).2≠0 then ([],(textL c.cells [82]).2) else lineTo (ss.drop (k+1)) c (a ++ [runW (textL c.cells [82]).1])) else if ss[k].k=4 then lineTo (ss.drop (k+1)) c (a ++ [Lib.itoa (c.get ss[k].fld)]) else lineTo (ss.drop (k+1)) c a:=by
 conv=>lhs;rw[List.drop_eq_getElem_cons h1]
 rfl
theorem lineTo_end (c:Cmd)(a:List (List UInt8)):lineTo [] c a=(a,0):=by unfold lineTo;rfl
theorem right_nums {c:Cmd}(h:rightP c=true){f:Form}(hf:kindF c.kind=some f):∀ s ∈ f.slots,s.k=4→-1048576≤c.get s.fld∧c.get s.fld≤1048576:=by
 intro s hs h4;unfold rightP at h;rw[hf] at h;dsimp only at h;cases hr:rgtTo f.slots c { c with kind:=0 } with
 | none=>rw[hr] at h;cases h
 | some r'=>
  have h1:=rgt_num _ _ _ _ hr s hs h4;have h2:=(form_in (kindF_mem hf).1).1 s hs;omega
theorem ownS_lit (w:World)(b:ByteArray):OwnS 9 (w.alloc (.cells #[.string b] 9)) w.heap.size (.slice (some ⟨w.heap.size,0,none⟩) 1 1) [b]:=by
 have h:=World.ownsRow_lit (base:=w.heap.size) (e:=9) (size:=1) w #[.string b] 1 (Nat.le_refl _) (by decide) (by simp);unfold OwnS;exact h
theorem OwnS.low {T:TypeId}{w:World}{b b':Nat}{v:Value}{bs:List ByteArray}(h:OwnS T w b v bs)(hb:b'≤b):OwnS T w b' v bs:=by
 refine⟨h.1,?_⟩;rcases h.2 with h2 | ⟨g,cap,cur,h3,h4,h5⟩
 ·exact .inl h2
 ·exact .inr ⟨g,cap,cur,h3,Nat.le_trans hb h4,h5⟩
set_option maxHeartbeats 32000000 in
theorem line56_any (c:Cmd)(A:Option Addr)(cap:Nat)(w:World)(hg:Glob w)(he:ErrV w)(hc:Cls w A c.cells)(hn:c.name.length≤65536) :
  Calls Tryz.prog 14 #[cmdV c (nmV c) (.slice A c.cells.length cap)] w fun e w'=>e=.returned (.tuple #[.string ⟨(lineP c).1.toArray⟩,.int .i64 (lineP c).2])∧Below w.heap.size w w':=by
 obtain⟨r,hr⟩:∃ r,r=lineP c:=⟨_,rfl⟩
 rw[← hr];have HR:=hid hr;have HG:=hid hg;have HE:=hid he;have HCL:=hid hc;have HNL:=hid hn;clear hr hg he hc hn;obtain⟨w1,hw1⟩:∃ W,w.alloc (.cells #[.int .i64 c.kind,.int .i64 c.x,.int .i64 c.y,.int .i64 c.n,.int .i64 c.m,.string (nmV c),.slice A c.cells.length cap,.int .i64 c.p,.int .i64 c.dx,.int .i64 c.dy] 34)=W:=⟨_,rfl⟩
 have hk1:Blk w1 w.heap.size 34 #[.int .i64 c.kind,.int .i64 c.x,.int .i64 c.y,.int .i64 c.n,.int .i64 c.m,.string (nmV c),.slice A c.cells.length cap,.int .i64 c.p,.int .i64 c.dx,.int .i64 c.dy]:=by rw[← hw1];exact Blk.new _ _ _
 have hb1:Below w.heap.size w w1:=by rw[← hw1];exact below_new _ _
 have hrg:=right56_any c A cap w1 (HG.out.ext hb1).1 (HE.out.ext hb1) (HCL.out.ext hb1) (by have:=HNL.out;omega);unfold cmdV at hrg ⊢;have HRG:=hid hrg;have HK1:=hid hk1;have HB1:=hid hb1;have x0:w1.cell? ⟨w.heap.size,0,none⟩=some (.int .i64 c.kind):=hk1.cell_ 0 _ rfl;have x1:w1.cell? ⟨w.heap.size,1,none⟩=some (.int .i64 c.x):=hk1.cell_ 1 _ rfl;have x2:w1.cell? ⟨w.heap.size,2,none⟩=some (.int .i64 c.y):=hk1.cell_ 2 _ rfl;have x3:w1.cell? ⟨w.heap.size,3,none⟩=some (.int .i64 c.n):=hk1.cell_ 3 _ rfl;have x4:w1.cell? ⟨w.heap.size,4,none⟩=some (.int .i64 c.m):=hk1.cell_ 4 _ rfl;have x5:w1.cell? ⟨w.heap.size,5,none⟩=some (.string (nmV c)):=hk1.cell_ 5 _ rfl;have x6:w1.cell? ⟨w.heap.size,6,none⟩=some (.slice A c.cells.length cap):=hk1.cell_ 6 _ rfl;have x7:w1.cell? ⟨w.heap.size,7,none⟩=some (.int .i64 c.p):=hk1.cell_ 7 _ rfl;have x8:w1.cell? ⟨w.heap.size,8,none⟩=some (.int .i64 c.dx):=hk1.cell_ 8 _ rfl;have x9:w1.cell? ⟨w.heap.size,9,none⟩=some (.int .i64 c.dy):=hk1.cell_ 9 _ rfl;clear hk1 hb1 hrg;go_enter Tryz.func14,Tryz.ntmps14;go_upto_region 1 with fail
 (try rw[hw1]);clear hw1;go_wp2_with (go_at_call 16;refine HRG.out.mono ?_;intro e wq hx;obtain⟨rfl,hbq⟩:=hx;refine Hid.out ?_);refine hid ?_;have HBQ:=hid (HB1.out.trans (hbq.mono HB1.out.size));have HKQ:=hid (HK1.out.below hbq HK1.out.lt);clear hbq HRG HK1 HB1 x0 x1 x2 x3 x4 x5 x6 x7 x8 x9;obtain⟨rb,hrb⟩:∃ b,b=rightP c:=⟨_,rfl⟩
 rw[← hrb];cases rb with
 | false=>
  have HN:Hid (r=([],2)):=hid (by rw[HR.out];unfold lineP;rw[if_pos hrb.symm]);clear hrb;go_wp2;go_ret2;exact⟨ret_se HN.out,HBQ.out⟩
 | true=>
  obtain⟨kf,hkf⟩:∃ x,x=kindF c.kind:=⟨_,rfl⟩
  have HRK:Hid (r=finM c kf):=hid (by rw[HR.out,hkf];exact line_fin hrb.symm);have HRT:Hid (rightP c=true):=hid hrb.symm;have HKF:=hid hkf;have HFM:=hid (forms_any wq);clear hrb hkf;go_wp2_with (go_at_call 25;refine HFM.out.mono ?_;rintro e w2 ⟨v2,rfl,hfa,hb2⟩;refine Hid.out ?_);refine hid ?_;obtain⟨FA,fc,rfl⟩:=hfa.form;have HP2:=hid (HKQ.out.below hb2 HKQ.out.lt);have HB2:=hid (HBQ.out.trans (hb2.mono HBQ.out.size));obtain⟨fs,hfs⟩:∃ x,x=formsP:=⟨_,rfl⟩
  rw[← hfs] at hfa ⊢;have HFS:=hid hfs;have HFA:=hid hfa;have HFN:Hid (fs.length=12):=hid (by rw[hfs];rfl);clear hfs hfa hb2 HFM HKQ HBQ;go_wp2;go_loopw [16] (fun iv wr=>∃ k:Nat,k≤fs.length∧iv=.int .i64 k∧Hid (Below w2.heap.size w2 wr)∧Hid ((fs.drop k).find? (fun f=>decide (f.kind=c.kind))=kf)) (fun iv _=>fs.length - (intOf iv).toNat)
  case atStart=>exact⟨0,Nat.zero_le _,rfl,hid (Below.refl _ _),hid (by rw[HKF.out,HFS.out];rfl)⟩
  case round=>
   obtain⟨k,hk,rfl,HBq,HT⟩:=hrel;have hwk:wrap64 ((k:Int)+1)=(k:Int)+1:=by have:=HFN.out;unfold wrap64;omega
   have HBW:=hid (HB2.out.trans (HBq.out.mono HB2.out.size));by_cases hlt:k < fs.length
   ·obtain⟨fb,fo,fcc,sv,efv,hfbl,f0,f1,f2,hsl2⟩:=HFA.out.at_ hlt
    replace f0:=(HBq.out.cell (World.block_lt_of_cell? _ _ f0)).trans f0
    replace f1:=(HBq.out.cell (World.block_lt_of_cell? _ _ f1)).trans f1
    replace f2:=(HBq.out.cell (World.block_lt_of_cell? _ _ f2)).trans f2
    injection efv with efv1 efv2 efv3
    subst efv1 efv3;obtain⟨SA,sc,rfl⟩:=hsl2.form;have HSTEP:=hid (find_drop hlt (fun f=>decide (f.kind=c.kind)));have HMEM:Hid (fs[k] ∈ formsP):=hid (by rw[← HFS.out];exact List.getElem_mem hlt);obtain⟨ff,hff⟩:∃ f,f=fs[k]:=⟨_,rfl⟩
    rw[← hff] at f0 f1 f2 HSTEP HMEM hsl2;clear hff;have HLT:=hid hlt;obtain⟨w3,hw3⟩:∃ W,wr.alloc (.cells #[.string ⟨ff.word.toArray⟩,.int .i64 ff.kind,.slice SA ff.slots.length sc] 52)=W:=⟨_,rfl⟩
    obtain⟨p3,hp3⟩:∃ p,wr.heap.size=p:=⟨_,rfl⟩
    have hk3:Blk w3 p3 52 #[.string ⟨ff.word.toArray⟩,.int .i64 ff.kind,.slice SA ff.slots.length sc]:=by rw[← hw3,← hp3];exact Blk.new _ _ _
    have hb3:Below wr.heap.size wr w3:=by rw[← hw3];exact below_new _ _
    have HB3:=hid (HBq.out.trans (hb3.mono HBq.out.size));have HBW3:=hid (HBW.out.trans (hb3.mono HBW.out.size));have HP3:=hid (HP2.out.below HB3.out HP2.out.lt);have y0:w3.cell? ⟨p3,0,none⟩=some (.string ⟨ff.word.toArray⟩):=hk3.cell_ 0 _ rfl;have y1:w3.cell? ⟨p3,1,none⟩=some (.int .i64 ff.kind):=hk3.cell_ 1 _ rfl;have HK3:=hid hk3;have HSL2:=hid hsl2;clear hk3 hb3 hsl2 HBq HBW;have x0:w3.cell? ⟨w.heap.size,0,none⟩=some (.int .i64 c.kind):=HP3.out.cell_ 0 _ rfl;go_upto_region 6 with fail
    (try rw[hw3]);(try rw[hp3]);clear hw3 hp3 f0 f1 f2;by_cases hkd:ff.kind=c.kind
    ·have dk:((ff.kind:Int) != c.kind)=false:=by rw[hkd];simp
     have hks:kf=some ff:=by rw[← HT.out,HSTEP.out,if_pos (decide_eq_true hkd)]
     obtain⟨tot,htot⟩:∃ t,t=lineTo ff.slots c [ff.word]:=⟨_,rfl⟩
     have HRB:Hid (r=finL tot):=hid (by rw[HRK.out,hks,htot];rfl);have HTOT:=hid htot;have HFLD:=hid (forms_fld ff HMEM.out);have HNRS:=hid (right_nums HRT.out (f:=ff) (by rw[← HKF.out,hks]));have HFI:=hid (form_in HMEM.out);have HSN:Hid (ff.slots.length≤10):=hid HFI.out.2.2;have HWL:Hid (ff.word.length≤20):=hid HFI.out.2.1;have HTXS:Hid (∀ s ∈ ff.slots,s.text.length≤20):=hid (fun s hs=>(HFI.out.1 s hs).2.2);clear hkd htot HT HSTEP HMEM hks HRK HKF HFI HRT;obtain⟨w5,hw5⟩:∃ W,w3.alloc (.cells #[.string ⟨ff.word.toArray⟩] 9)=W:=⟨_,rfl⟩
     obtain⟨p5,hp5⟩:∃ p,w3.heap.size=p:=⟨_,rfl⟩
     have hb5:Below w3.heap.size w3 w5:=by rw[← hw5];exact below_new w3 _
     have HO5:Hid (OwnS 9 w5 w2.heap.size (.slice (some ⟨p5,0,none⟩) 1 1) [⟨ff.word.toArray⟩]):=hid (by rw[← hw5,← hp5];exact (ownS_lit w3 _).low HB3.out.size);have y2:w5.cell? ⟨p3,2,none⟩=some (.slice SA ff.slots.length sc):=(HK3.out.below hb5 HK3.out.lt).cell_ 2 _ rfl;have HB5:=hid (HB3.out.trans (hb5.mono HB3.out.size));clear hb5;go_upto_region 8 with fail
     (try rw[hw5]);(try rw[hp5]);clear hw5 hp5 x0 y0 y1 HK3 HP3 HBW3 HB3;go_wp2;clear y2;obtain⟨ss,hss⟩:∃ s,s=ff.slots:=⟨_,rfl⟩
     rw[← hss] at HSL2 HFLD HSN HTOT HNRS HTXS ⊢;clear hss;have hkO:=hk;clear hk hlt;go_loopw [6,31] (fun bv iv wr=>∃ (k:Nat) (bs:List ByteArray),k≤ss.length∧iv=.int .i64 k∧Hid (Below w2.heap.size w2 wr)∧Hid (OwnS 9 wr w2.heap.size bv bs)∧Hid (lineTo (ss.drop k) c (wdL bs)=tot)∧Hid (∀ b ∈ bs,b.size≤100000)∧Hid (bs.length≤k+1)) (fun _ iv _=>ss.length - (intOf iv).toNat)
     case atStart=>exact⟨0,[⟨ff.word.toArray⟩],Nat.zero_le _,rfl,HB5,HO5,hid HTOT.out.symm,hid (fun b hb=>by
      rw[List.mem_singleton.1 hb];have h:=HWL.out;have h2:(⟨ff.word.toArray⟩:ByteArray).size=ff.word.length:=List.size_toArray;omega),hid (Nat.le_refl _)⟩
     case round=>
      clear HO5 HB5 HTOT;obtain⟨k,bs,hk,rfl,HBq,HO,HT,HBM,HBN⟩:=hrel;have hwk:wrap64 ((k:Int)+1)=(k:Int)+1:=by have:=HSN.out;unfold wrap64;omega
      have HBW:=hid (HB2.out.trans (HBq.out.mono HB2.out.size));have HKP:=hid (HP2.out.below HBq.out HP2.out.lt);by_cases hlt:k < ss.length
      ·obtain⟨sb,so,sc',e,-,q0,q1,q2,q3,q4⟩:=(HSL2.out.ext HBq.out).at_ hlt;injection e with e1 e2 e3
       subst e1 e3;have hat:=lineTo_at hlt c (wdL bs);have hfo:=HFLD.out ss[k] (List.getElem_mem hlt);have hnr:=HNRS.out ss[k] (List.getElem_mem hlt);have htx:=HTXS.out ss[k] (List.getElem_mem hlt);obtain⟨s0,hs0⟩:∃ s,s=ss[k]:=⟨_,rfl⟩
       rw[← hs0] at q0 q1 q2 q3 q4 hat hfo hnr htx;have hf:=fldV_or s0.fld;obtain⟨fv,hfv⟩:∃ fv,fv=fldV s0.fld:=⟨_,rfl⟩
       rw[← hfv] at q2 hf;have HAT:=hid hat;have HLT:=hid hlt;have HFO:=hid hfo;have HFV:=hid hfv;have HNR:=hid hnr;have HTX:=hid htx;clear hs0 hfv hat hfo hnr htx;rcases hf with hf | ⟨fn,hf⟩
       ·subst hf;obtain⟨w6,hw6⟩:∃ W,wr.alloc (.cells #[.int .i64 (s0.k:Int),.string ⟨s0.text.toArray⟩,.nilFunc,.int .i64 s0.lo,.int .i64 s0.hi] 60)=W:=⟨_,rfl⟩
        obtain⟨p6,hp6⟩:∃ p,wr.heap.size=p:=⟨_,rfl⟩
        have hk6:Blk w6 p6 60 #[.int .i64 (s0.k:Int),.string ⟨s0.text.toArray⟩,.nilFunc,.int .i64 s0.lo,.int .i64 s0.hi]:=by rw[← hw6,← hp6];exact Blk.new _ _ _
        have hb6x:Below wr.heap.size wr w6:=by rw[← hw6];exact below_new _ _
        have HB6:=hid (HBq.out.trans (hb6x.mono HBq.out.size));have HBW6:=hid (HBW.out.trans (hb6x.mono HBW.out.size));have HKP6:=hid (HKP.out.below hb6x HKP.out.lt);have HO6:=hid (HO.out.ext hb6x);have y0:w6.cell? ⟨p6,0,none⟩=some (.int .i64 (s0.k:Int)):=hk6.cell_ 0 _ rfl;have y1:w6.cell? ⟨p6,1,none⟩=some (.string ⟨s0.text.toArray⟩):=hk6.cell_ 1 _ rfl;have y2:=hk6.cell_ 2 _ rfl;have x0:w6.cell? ⟨w.heap.size,0,none⟩=some (.int .i64 c.kind):=HKP6.out.cell_ 0 _ rfl;have x1:w6.cell? ⟨w.heap.size,1,none⟩=some (.int .i64 c.x):=HKP6.out.cell_ 1 _ rfl;have x2:w6.cell? ⟨w.heap.size,2,none⟩=some (.int .i64 c.y):=HKP6.out.cell_ 2 _ rfl;have x3:w6.cell? ⟨w.heap.size,3,none⟩=some (.int .i64 c.n):=HKP6.out.cell_ 3 _ rfl;have x4:w6.cell? ⟨w.heap.size,4,none⟩=some (.int .i64 c.m):=HKP6.out.cell_ 4 _ rfl;have x5:w6.cell? ⟨w.heap.size,5,none⟩=some (.string (nmV c)):=HKP6.out.cell_ 5 _ rfl;have x6:w6.cell? ⟨w.heap.size,6,none⟩=some (.slice A c.cells.length cap):=HKP6.out.cell_ 6 _ rfl;have x7:w6.cell? ⟨w.heap.size,7,none⟩=some (.int .i64 c.p):=HKP6.out.cell_ 7 _ rfl;have x8:w6.cell? ⟨w.heap.size,8,none⟩=some (.int .i64 c.dx):=HKP6.out.cell_ 8 _ rfl;have x9:w6.cell? ⟨w.heap.size,9,none⟩=some (.int .i64 c.dy):=HKP6.out.cell_ 9 _ rfl;clear hk6 hb6x HBq HBW HKP HO;go_upto_region 11 with fail
        (try rw[hw6]);(try rw[hp6]);clear hw6 hp6 q0 q1 q2 q3 q4;by_cases hk0:s0.k=0
        ·have e0:((s0.k:Int) == 0)=true:=by rw[hk0];rfl
         have hown:=HO6.out;have hal:bs.length < 4294967296:=by have:=HBN.out;have:=HSN.out;omega
         have hbs:w2.heap.size≤w6.heap.size:=HB6.out.size;have HN:Hid (lineTo (ss.drop (k+1)) c (wdL bs ++ [s0.text])=tot):=hid (by rw[← HT.out,HAT.out,if_pos hk0]);have HWN:Hid ((s0.text:List UInt8).length≤100000):=hid (by have:=HTX.out;omega);clear HAT HT;go_wp2_with (at_builtin;refine wpList_pushS rfl _ _ 44 rfl w2.heap.size 9 (by kernel_rfl) Tryz.infoString u6 bs rfl hown (⟨s0.text.toArray⟩:ByteArray) rfl hal hbs ?_);intro v' w10 ho10 hb10;have HO10:=hid ho10;have HB10:=hid (HB6.out.trans hb10);have HN10:Hid (lineTo (ss.drop (k+1)) c (wdL (bs ++ [(⟨s0.text.toArray⟩:ByteArray)]))=tot):=hid (by rw[wdL_snoc];exact HN.out);have HM10:Hid (∀ b ∈ bs ++ [(⟨s0.text.toArray⟩:ByteArray)],b.size≤100000):=hid (fun b hb=>by
          rcases List.mem_append.1 hb with hb | hb
          ·exact HBM.out b hb
          ·rw[List.mem_singleton.1 hb];have h:=HWN.out;have h2:((⟨s0.text.toArray⟩:ByteArray):ByteArray).data.toList.length=((⟨s0.text.toArray⟩:ByteArray):ByteArray).size:=Array.length_toList;have h3:((⟨s0.text.toArray⟩:ByteArray):ByteArray).data.toList=s0.text:=rfl;rw[h3] at h2;omega)
         have HL10:Hid ((bs ++ [(⟨s0.text.toArray⟩:ByteArray)]).length≤k+1+1):=hid (by rw[List.length_append];have:=HBN.out;show bs.length+1≤_;omega);clear ho10 hb10 hown hal hbs;go_wp2;go_roundw
         case rel=>exact⟨k+1,_,HLT.out,(by first | rfl | (rw[hwk];rfl)),HB10,HO10,HN10,HM10,HL10⟩
         case measure=>(try rw[hwk]);exact meas_step5b HLT.out
        ·have e0:((s0.k:Int) == 0)=false:=beq_false_of_ne (by omega);by_cases hk12:s0.k=1∨s0.k=2
         ·have HAT1:Hid (lineTo (ss.drop k) c (wdL bs)=lineTo (ss.drop (k+1)) c (wdL bs ++ [c.name])):=hid (by rw[HAT.out,if_neg hk0,if_pos hk12]);clear HAT;have HAT:=HAT1;rcases hk12 with hk1 | hk1
          ·have e1:((s0.k:Int) == 1)=true:=by rw[hk1];rfl
           clear hk1;have hown:=HO6.out;have hal:bs.length < 4294967296:=by have:=HBN.out;have:=HSN.out;omega
           have hbs:w2.heap.size≤w6.heap.size:=HB6.out.size;have HN:Hid (lineTo (ss.drop (k+1)) c (wdL bs ++ [c.name])=tot):=hid (by rw[← HT.out,HAT.out]);have HWN:Hid ((c.name:List UInt8).length≤100000):=hid (by have:=HNL.out;omega);clear HAT HT;go_wp2_with (at_builtin;refine wpList_pushS rfl _ _ 44 rfl w2.heap.size 9 (by kernel_rfl) Tryz.infoString u6 bs rfl hown (nmV c) rfl hal hbs ?_);intro v' w10 ho10 hb10;have HO10:=hid ho10;have HB10:=hid (HB6.out.trans hb10);have HN10:Hid (lineTo (ss.drop (k+1)) c (wdL (bs ++ [(nmV c)]))=tot):=hid (by rw[wdL_snoc];exact HN.out);have HM10:Hid (∀ b ∈ bs ++ [(nmV c)],b.size≤100000):=hid (fun b hb=>by
            rcases List.mem_append.1 hb with hb | hb
            ·exact HBM.out b hb
            ·rw[List.mem_singleton.1 hb];have h:=HWN.out;have h2:((nmV c):ByteArray).data.toList.length=((nmV c):ByteArray).size:=Array.length_toList;have h3:((nmV c):ByteArray).data.toList=c.name:=rfl;rw[h3] at h2;omega)
           have HL10:Hid ((bs ++ [(nmV c)]).length≤k+1+1):=hid (by rw[List.length_append];have:=HBN.out;show bs.length+1≤_;omega);clear ho10 hb10 hown hal hbs;go_wp2;go_roundw
           case rel=>exact⟨k+1,_,HLT.out,(by first | rfl | (rw[hwk];rfl)),HB10,HO10,HN10,HM10,HL10⟩
           case measure=>(try rw[hwk]);exact meas_step5b HLT.out
          ·have e1:((s0.k:Int) == 1)=false:=by rw[hk1];rfl
           have e2:((s0.k:Int) == 2)=true:=by rw[hk1];rfl
           clear hk1;have hown:=HO6.out;have hal:bs.length < 4294967296:=by have:=HBN.out;have:=HSN.out;omega
           have hbs:w2.heap.size≤w6.heap.size:=HB6.out.size;have HN:Hid (lineTo (ss.drop (k+1)) c (wdL bs ++ [c.name])=tot):=hid (by rw[← HT.out,HAT.out]);have HWN:Hid ((c.name:List UInt8).length≤100000):=hid (by have:=HNL.out;omega);clear HAT HT;go_wp2_with (at_builtin;refine wpList_pushS rfl _ _ 44 rfl w2.heap.size 9 (by kernel_rfl) Tryz.infoString u6 bs rfl hown (nmV c) rfl hal hbs ?_);intro v' w10 ho10 hb10;have HO10:=hid ho10;have HB10:=hid (HB6.out.trans hb10);have HN10:Hid (lineTo (ss.drop (k+1)) c (wdL (bs ++ [(nmV c)]))=tot):=hid (by rw[wdL_snoc];exact HN.out);have HM10:Hid (∀ b ∈ bs ++ [(nmV c)],b.size≤100000):=hid (fun b hb=>by
            rcases List.mem_append.1 hb with hb | hb
            ·exact HBM.out b hb
            ·rw[List.mem_singleton.1 hb];have h:=HWN.out;have h2:((nmV c):ByteArray).data.toList.length=((nmV c):ByteArray).size:=Array.length_toList;have h3:((nmV c):ByteArray).data.toList=c.name:=rfl;rw[h3] at h2;omega)
           have HL10:Hid ((bs ++ [(nmV c)]).length≤k+1+1):=hid (by rw[List.length_append];have:=HBN.out;show bs.length+1≤_;omega);clear ho10 hb10 hown hal hbs;go_wp2;go_roundw
           case rel=>exact⟨k+1,_,HLT.out,(by first | rfl | (rw[hwk];rfl)),HB10,HO10,HN10,HM10,HL10⟩
           case measure=>(try rw[hwk]);exact meas_step5b HLT.out
         ·have e1:((s0.k:Int) == 1)=false:=beq_false_of_ne (by omega);have e2:((s0.k:Int) == 2)=false:=beq_false_of_ne (by omega);by_cases hk3:s0.k=3
          ·have e3:((s0.k:Int) == 3)=true:=by rw[hk3];rfl
           have HAT1:Hid (lineTo (ss.drop k) c (wdL bs)=if (textL c.cells [82]).2≠0 then ([],(textL c.cells [82]).2) else lineTo (ss.drop (k+1)) c (wdL bs ++ [runW (textL c.cells [82]).1])):=hid (by rw[HAT.out,if_neg hk0,if_neg hk12,if_pos hk3]);clear HAT hk0 hk12 hk3;have htx:=text_any A cap c.cells [82] w6 (HG.out.ext HBW6.out) (HCL.out.ext HBW6.out) (by decide);have htl:=fun h=>text_len56 (ps:=c.cells) (rule:=[82]) h;obtain⟨tx,htx2⟩:∃ t,t=textL c.cells [82]:=⟨_,rfl⟩
           rw[← htx2] at htx HAT1 htl;obtain⟨tl,er⟩:=tx;dsimp only at htx HAT1 htl;have HTX2:=hid htx;have HTL:=hid htl;clear htx htl htx2;go_wp2_with (go_at_call 32;refine HTX2.out.mono ?_;intro e w7 hx;obtain⟨rfl,hb7⟩:=hx;refine Hid.out ?_);refine hid ?_;have HB7:=hid (HB6.out.trans (hb7.mono HB6.out.size));have HBW7:=hid (HBW6.out.trans (hb7.mono HBW6.out.size));have HO7:=hid (HO6.out.ext hb7);clear hb7 HTX2 HB6 HBW6 HO6 HKP6 y0 y1 y2 x0 x1 x2 x3 x4 x5 x6 x7 x8 x9;by_cases her:er=0
           ·subst her;have HL6:Hid (tl.length≤65536):=hid (HTL.out rfl);have HAT:Hid (lineTo (ss.drop k) c (wdL bs)=lineTo (ss.drop (k+1)) c (wdL bs ++ [runW tl])):=hid (by rw[HAT1.out,if_neg (by simp)]);have HCT:=hid (cutnl_any tl w7 (HG.out.ext HBW7.out).1 (by have:=HL6.out;omega));clear HTL HAT1;go_wp2_with (go_at_call 33;refine HCT.out.mono ?_;rintro e w8 ⟨cb,rfl,hb8⟩;refine Hid.out ?_);refine hid ?_;have HB8:=hid (HB7.out.trans (hb8.mono HB7.out.size));have HBW8:=hid (HBW7.out.trans (hb8.mono HBW7.out.size));have HO8:=hid (HO7.out.ext hb8);have hal:(afterLine tl).length≤tl.length:=by unfold afterLine;rw[List.length_drop];omega
            have HRP:=hid (repl_any (afterLine tl) w8 (HG.out.ext HBW8.out).1 (by have:=HL6.out;omega));have HRW:Hid ((runW tl).length≤65536):=hid (Nat.le_trans (runW_len tl) HL6.out);clear hb8 HCT hal HB7 HBW7 HO7;go_wp2_with (go_at_call 34;refine HRP.out.mono ?_;intro e w9 hx;obtain⟨rfl,hb9⟩:=hx;refine Hid.out ?_);refine hid ?_;have HB9:=hid (HB8.out.trans (hb9.mono HB8.out.size));have HO9:=hid (HO8.out.ext hb9);clear hb9 HRP HB8 HO8;have hrw:(afterLine tl).filter (fun c=>c != 10)=runW tl:=rfl;rw[hrw];clear hrw;have hown:=HO9.out;have hal:bs.length < 4294967296:=by have:=HBN.out;have:=HSN.out;omega
            have hbs:w2.heap.size≤w9.heap.size:=HB9.out.size;have HN:Hid (lineTo (ss.drop (k+1)) c (wdL bs ++ [runW tl])=tot):=hid (by rw[← HT.out,HAT.out]);have HWN:Hid ((runW tl:List UInt8).length≤100000):=hid (by have:=HRW.out;omega);clear HAT HT;go_wp2_with (at_builtin;refine wpList_pushS rfl _ _ 44 rfl w2.heap.size 9 (by kernel_rfl) Tryz.infoString u6 bs rfl hown (⟨(runW tl).toArray⟩:ByteArray) rfl hal hbs ?_);intro v' w10 ho10 hb10;have HO10:=hid ho10;have HB10:=hid (HB9.out.trans hb10);have HN10:Hid (lineTo (ss.drop (k+1)) c (wdL (bs ++ [(⟨(runW tl).toArray⟩:ByteArray)]))=tot):=hid (by rw[wdL_snoc];exact HN.out);have HM10:Hid (∀ b ∈ bs ++ [(⟨(runW tl).toArray⟩:ByteArray)],b.size≤100000):=hid (fun b hb=>by
             rcases List.mem_append.1 hb with hb | hb
             ·exact HBM.out b hb
             ·rw[List.mem_singleton.1 hb];have h:=HWN.out;have h2:((⟨(runW tl).toArray⟩:ByteArray):ByteArray).data.toList.length=((⟨(runW tl).toArray⟩:ByteArray):ByteArray).size:=Array.length_toList;have h3:((⟨(runW tl).toArray⟩:ByteArray):ByteArray).data.toList=runW tl:=rfl;rw[h3] at h2;omega)
            have HL10:Hid ((bs ++ [(⟨(runW tl).toArray⟩:ByteArray)]).length≤k+1+1):=hid (by rw[List.length_append];have:=HBN.out;show bs.length+1≤_;omega);clear ho10 hb10 hown hal hbs;go_wp2;go_roundw
            case rel=>exact⟨k+1,_,HLT.out,(by first | rfl | (rw[hwk];rfl)),HB10,HO10,HN10,HM10,HL10⟩
            case measure=>(try rw[hwk]);exact meas_step5b HLT.out
           ·have de:(er == 0)=false:=by simpa using her
            have de2:(er != 0)=true:=by simpa using her
            have HTT:Hid (tot=([],er)):=hid (by rw[← HT.out,HAT1.out,if_pos her]);have HRE:Hid (r=([],er)):=hid (by rw[HRB.out,HTT.out];unfold finL;rw[if_pos her]);clear her HAT1;go_wp2;go_ret2;exact⟨ret_se HRE.out,HBW7.out⟩
          ·have e3:((s0.k:Int) == 3)=false:=beq_false_of_ne (by omega);by_cases hk4:s0.k=4
           ·have e4:((s0.k:Int) == 4)=true:=by rw[hk4];rfl
            exfalso;have h:=HFV.out;rcases HFO.out hk4 with h2 | h2 | h2 | h2 | h2 | h2 | h2 <;> (rw[h2] at h;cases h)
           ·have e4:((s0.k:Int) == 4)=false:=beq_false_of_ne (by omega);have HN:Hid (lineTo (ss.drop (k+1)) c (wdL bs)=tot):=hid (by rw[← HT.out,HAT.out,if_neg hk0,if_neg hk12,if_neg hk3,if_neg hk4]);clear hk0 hk12 hk3 hk4 HAT HT;go_wp2;go_roundw
            case rel=>exact⟨k+1,bs,HLT.out,(by first | rfl | (rw[hwk];rfl)),HB6,HO6,HN,HBM,hid (Nat.le_succ_of_le HBN.out)⟩
            case measure=>(try rw[hwk]);exact meas_step5b HLT.out
       ·subst hf;obtain⟨w6,hw6⟩:∃ W,wr.alloc (.cells #[.int .i64 (s0.k:Int),.string ⟨s0.text.toArray⟩,.func fn #[] #[],.int .i64 s0.lo,.int .i64 s0.hi] 60)=W:=⟨_,rfl⟩
        obtain⟨p6,hp6⟩:∃ p,wr.heap.size=p:=⟨_,rfl⟩
        have hk6:Blk w6 p6 60 #[.int .i64 (s0.k:Int),.string ⟨s0.text.toArray⟩,.func fn #[] #[],.int .i64 s0.lo,.int .i64 s0.hi]:=by rw[← hw6,← hp6];exact Blk.new _ _ _
        have hb6x:Below wr.heap.size wr w6:=by rw[← hw6];exact below_new _ _
        have HB6:=hid (HBq.out.trans (hb6x.mono HBq.out.size));have HBW6:=hid (HBW.out.trans (hb6x.mono HBW.out.size));have HKP6:=hid (HKP.out.below hb6x HKP.out.lt);have HO6:=hid (HO.out.ext hb6x);have y0:w6.cell? ⟨p6,0,none⟩=some (.int .i64 (s0.k:Int)):=hk6.cell_ 0 _ rfl;have y1:w6.cell? ⟨p6,1,none⟩=some (.string ⟨s0.text.toArray⟩):=hk6.cell_ 1 _ rfl;have y2:=hk6.cell_ 2 _ rfl;have x0:w6.cell? ⟨w.heap.size,0,none⟩=some (.int .i64 c.kind):=HKP6.out.cell_ 0 _ rfl;have x1:w6.cell? ⟨w.heap.size,1,none⟩=some (.int .i64 c.x):=HKP6.out.cell_ 1 _ rfl;have x2:w6.cell? ⟨w.heap.size,2,none⟩=some (.int .i64 c.y):=HKP6.out.cell_ 2 _ rfl;have x3:w6.cell? ⟨w.heap.size,3,none⟩=some (.int .i64 c.n):=HKP6.out.cell_ 3 _ rfl;have x4:w6.cell? ⟨w.heap.size,4,none⟩=some (.int .i64 c.m):=HKP6.out.cell_ 4 _ rfl;have x5:w6.cell? ⟨w.heap.size,5,none⟩=some (.string (nmV c)):=HKP6.out.cell_ 5 _ rfl;have x6:w6.cell? ⟨w.heap.size,6,none⟩=some (.slice A c.cells.length cap):=HKP6.out.cell_ 6 _ rfl;have x7:w6.cell? ⟨w.heap.size,7,none⟩=some (.int .i64 c.p):=HKP6.out.cell_ 7 _ rfl;have x8:w6.cell? ⟨w.heap.size,8,none⟩=some (.int .i64 c.dx):=HKP6.out.cell_ 8 _ rfl;have x9:w6.cell? ⟨w.heap.size,9,none⟩=some (.int .i64 c.dy):=HKP6.out.cell_ 9 _ rfl;clear hk6 hb6x HBq HBW HKP HO;go_upto_region 11 with fail
        (try rw[hw6]);(try rw[hp6]);clear hw6 hp6 q0 q1 q2 q3 q4;by_cases hk0:s0.k=0
        ·have e0:((s0.k:Int) == 0)=true:=by rw[hk0];rfl
         have hown:=HO6.out;have hal:bs.length < 4294967296:=by have:=HBN.out;have:=HSN.out;omega
         have hbs:w2.heap.size≤w6.heap.size:=HB6.out.size;have HN:Hid (lineTo (ss.drop (k+1)) c (wdL bs ++ [s0.text])=tot):=hid (by rw[← HT.out,HAT.out,if_pos hk0]);have HWN:Hid ((s0.text:List UInt8).length≤100000):=hid (by have:=HTX.out;omega);clear HAT HT;go_wp2_with (at_builtin;refine wpList_pushS rfl _ _ 44 rfl w2.heap.size 9 (by kernel_rfl) Tryz.infoString u6 bs rfl hown (⟨s0.text.toArray⟩:ByteArray) rfl hal hbs ?_);intro v' w10 ho10 hb10;have HO10:=hid ho10;have HB10:=hid (HB6.out.trans hb10);have HN10:Hid (lineTo (ss.drop (k+1)) c (wdL (bs ++ [(⟨s0.text.toArray⟩:ByteArray)]))=tot):=hid (by rw[wdL_snoc];exact HN.out);have HM10:Hid (∀ b ∈ bs ++ [(⟨s0.text.toArray⟩:ByteArray)],b.size≤100000):=hid (fun b hb=>by
          rcases List.mem_append.1 hb with hb | hb
          ·exact HBM.out b hb
          ·rw[List.mem_singleton.1 hb];have h:=HWN.out;have h2:((⟨s0.text.toArray⟩:ByteArray):ByteArray).data.toList.length=((⟨s0.text.toArray⟩:ByteArray):ByteArray).size:=Array.length_toList;have h3:((⟨s0.text.toArray⟩:ByteArray):ByteArray).data.toList=s0.text:=rfl;rw[h3] at h2;omega)
         have HL10:Hid ((bs ++ [(⟨s0.text.toArray⟩:ByteArray)]).length≤k+1+1):=hid (by rw[List.length_append];have:=HBN.out;show bs.length+1≤_;omega);clear ho10 hb10 hown hal hbs;go_wp2;go_roundw
         case rel=>exact⟨k+1,_,HLT.out,(by first | rfl | (rw[hwk];rfl)),HB10,HO10,HN10,HM10,HL10⟩
         case measure=>(try rw[hwk]);exact meas_step5b HLT.out
        ·have e0:((s0.k:Int) == 0)=false:=beq_false_of_ne (by omega);by_cases hk12:s0.k=1∨s0.k=2
         ·have HAT1:Hid (lineTo (ss.drop k) c (wdL bs)=lineTo (ss.drop (k+1)) c (wdL bs ++ [c.name])):=hid (by rw[HAT.out,if_neg hk0,if_pos hk12]);clear HAT;have HAT:=HAT1;rcases hk12 with hk1 | hk1
          ·have e1:((s0.k:Int) == 1)=true:=by rw[hk1];rfl
           clear hk1;have hown:=HO6.out;have hal:bs.length < 4294967296:=by have:=HBN.out;have:=HSN.out;omega
           have hbs:w2.heap.size≤w6.heap.size:=HB6.out.size;have HN:Hid (lineTo (ss.drop (k+1)) c (wdL bs ++ [c.name])=tot):=hid (by rw[← HT.out,HAT.out]);have HWN:Hid ((c.name:List UInt8).length≤100000):=hid (by have:=HNL.out;omega);clear HAT HT;go_wp2_with (at_builtin;refine wpList_pushS rfl _ _ 44 rfl w2.heap.size 9 (by kernel_rfl) Tryz.infoString u6 bs rfl hown (nmV c) rfl hal hbs ?_);intro v' w10 ho10 hb10;have HO10:=hid ho10;have HB10:=hid (HB6.out.trans hb10);have HN10:Hid (lineTo (ss.drop (k+1)) c (wdL (bs ++ [(nmV c)]))=tot):=hid (by rw[wdL_snoc];exact HN.out);have HM10:Hid (∀ b ∈ bs ++ [(nmV c)],b.size≤100000):=hid (fun b hb=>by
            rcases List.mem_append.1 hb with hb | hb
            ·exact HBM.out b hb
            ·rw[List.mem_singleton.1 hb];have h:=HWN.out;have h2:((nmV c):ByteArray).data.toList.length=((nmV c):ByteArray).size:=Array.length_toList;have h3:((nmV c):ByteArray).data.toList=c.name:=rfl;rw[h3] at h2;omega)
           have HL10:Hid ((bs ++ [(nmV c)]).length≤k+1+1):=hid (by rw[List.length_append];have:=HBN.out;show bs.length+1≤_;omega);clear ho10 hb10 hown hal hbs;go_wp2;go_roundw
           case rel=>exact⟨k+1,_,HLT.out,(by first | rfl | (rw[hwk];rfl)),HB10,HO10,HN10,HM10,HL10⟩
           case measure=>(try rw[hwk]);exact meas_step5b HLT.out
          ·have e1:((s0.k:Int) == 1)=false:=by rw[hk1];rfl
           have e2:((s0.k:Int) == 2)=true:=by rw[hk1];rfl
           clear hk1;have hown:=HO6.out;have hal:bs.length < 4294967296:=by have:=HBN.out;have:=HSN.out;omega
           have hbs:w2.heap.size≤w6.heap.size:=HB6.out.size;have HN:Hid (lineTo (ss.drop (k+1)) c (wdL bs ++ [c.name])=tot):=hid (by rw[← HT.out,HAT.out]);have HWN:Hid ((c.name:List UInt8).length≤100000):=hid (by have:=HNL.out;omega);clear HAT HT;go_wp2_with (at_builtin;refine wpList_pushS rfl _ _ 44 rfl w2.heap.size 9 (by kernel_rfl) Tryz.infoString u6 bs rfl hown (nmV c) rfl hal hbs ?_);intro v' w10 ho10 hb10;have HO10:=hid ho10;have HB10:=hid (HB6.out.trans hb10);have HN10:Hid (lineTo (ss.drop (k+1)) c (wdL (bs ++ [(nmV c)]))=tot):=hid (by rw[wdL_snoc];exact HN.out);have HM10:Hid (∀ b ∈ bs ++ [(nmV c)],b.size≤100000):=hid (fun b hb=>by
            rcases List.mem_append.1 hb with hb | hb
            ·exact HBM.out b hb
            ·rw[List.mem_singleton.1 hb];have h:=HWN.out;have h2:((nmV c):ByteArray).data.toList.length=((nmV c):ByteArray).size:=Array.length_toList;have h3:((nmV c):ByteArray).data.toList=c.name:=rfl;rw[h3] at h2;omega)
           have HL10:Hid ((bs ++ [(nmV c)]).length≤k+1+1):=hid (by rw[List.length_append];have:=HBN.out;show bs.length+1≤_;omega);clear ho10 hb10 hown hal hbs;go_wp2;go_roundw
           case rel=>exact⟨k+1,_,HLT.out,(by first | rfl | (rw[hwk];rfl)),HB10,HO10,HN10,HM10,HL10⟩
           case measure=>(try rw[hwk]);exact meas_step5b HLT.out
         ·have e1:((s0.k:Int) == 1)=false:=beq_false_of_ne (by omega);have e2:((s0.k:Int) == 2)=false:=beq_false_of_ne (by omega);by_cases hk3:s0.k=3
          ·have e3:((s0.k:Int) == 3)=true:=by rw[hk3];rfl
           have HAT1:Hid (lineTo (ss.drop k) c (wdL bs)=if (textL c.cells [82]).2≠0 then ([],(textL c.cells [82]).2) else lineTo (ss.drop (k+1)) c (wdL bs ++ [runW (textL c.cells [82]).1])):=hid (by rw[HAT.out,if_neg hk0,if_neg hk12,if_pos hk3]);clear HAT hk0 hk12 hk3;have htx:=text_any A cap c.cells [82] w6 (HG.out.ext HBW6.out) (HCL.out.ext HBW6.out) (by decide);have htl:=fun h=>text_len56 (ps:=c.cells) (rule:=[82]) h;obtain⟨tx,htx2⟩:∃ t,t=textL c.cells [82]:=⟨_,rfl⟩
           rw[← htx2] at htx HAT1 htl;obtain⟨tl,er⟩:=tx;dsimp only at htx HAT1 htl;have HTX2:=hid htx;have HTL:=hid htl;clear htx htl htx2;go_wp2_with (go_at_call 32;refine HTX2.out.mono ?_;intro e w7 hx;obtain⟨rfl,hb7⟩:=hx;refine Hid.out ?_);refine hid ?_;have HB7:=hid (HB6.out.trans (hb7.mono HB6.out.size));have HBW7:=hid (HBW6.out.trans (hb7.mono HBW6.out.size));have HO7:=hid (HO6.out.ext hb7);clear hb7 HTX2 HB6 HBW6 HO6 HKP6 y0 y1 y2 x0 x1 x2 x3 x4 x5 x6 x7 x8 x9;by_cases her:er=0
           ·subst her;have HL6:Hid (tl.length≤65536):=hid (HTL.out rfl);have HAT:Hid (lineTo (ss.drop k) c (wdL bs)=lineTo (ss.drop (k+1)) c (wdL bs ++ [runW tl])):=hid (by rw[HAT1.out,if_neg (by simp)]);have HCT:=hid (cutnl_any tl w7 (HG.out.ext HBW7.out).1 (by have:=HL6.out;omega));clear HTL HAT1;go_wp2_with (go_at_call 33;refine HCT.out.mono ?_;rintro e w8 ⟨cb,rfl,hb8⟩;refine Hid.out ?_);refine hid ?_;have HB8:=hid (HB7.out.trans (hb8.mono HB7.out.size));have HBW8:=hid (HBW7.out.trans (hb8.mono HBW7.out.size));have HO8:=hid (HO7.out.ext hb8);have hal:(afterLine tl).length≤tl.length:=by unfold afterLine;rw[List.length_drop];omega
            have HRP:=hid (repl_any (afterLine tl) w8 (HG.out.ext HBW8.out).1 (by have:=HL6.out;omega));have HRW:Hid ((runW tl).length≤65536):=hid (Nat.le_trans (runW_len tl) HL6.out);clear hb8 HCT hal HB7 HBW7 HO7;go_wp2_with (go_at_call 34;refine HRP.out.mono ?_;intro e w9 hx;obtain⟨rfl,hb9⟩:=hx;refine Hid.out ?_);refine hid ?_;have HB9:=hid (HB8.out.trans (hb9.mono HB8.out.size));have HO9:=hid (HO8.out.ext hb9);clear hb9 HRP HB8 HO8;have hrw:(afterLine tl).filter (fun c=>c != 10)=runW tl:=rfl;rw[hrw];clear hrw;have hown:=HO9.out;have hal:bs.length < 4294967296:=by have:=HBN.out;have:=HSN.out;omega
            have hbs:w2.heap.size≤w9.heap.size:=HB9.out.size;have HN:Hid (lineTo (ss.drop (k+1)) c (wdL bs ++ [runW tl])=tot):=hid (by rw[← HT.out,HAT.out]);have HWN:Hid ((runW tl:List UInt8).length≤100000):=hid (by have:=HRW.out;omega);clear HAT HT;go_wp2_with (at_builtin;refine wpList_pushS rfl _ _ 44 rfl w2.heap.size 9 (by kernel_rfl) Tryz.infoString u6 bs rfl hown (⟨(runW tl).toArray⟩:ByteArray) rfl hal hbs ?_);intro v' w10 ho10 hb10;have HO10:=hid ho10;have HB10:=hid (HB9.out.trans hb10);have HN10:Hid (lineTo (ss.drop (k+1)) c (wdL (bs ++ [(⟨(runW tl).toArray⟩:ByteArray)]))=tot):=hid (by rw[wdL_snoc];exact HN.out);have HM10:Hid (∀ b ∈ bs ++ [(⟨(runW tl).toArray⟩:ByteArray)],b.size≤100000):=hid (fun b hb=>by
             rcases List.mem_append.1 hb with hb | hb
             ·exact HBM.out b hb
             ·rw[List.mem_singleton.1 hb];have h:=HWN.out;have h2:((⟨(runW tl).toArray⟩:ByteArray):ByteArray).data.toList.length=((⟨(runW tl).toArray⟩:ByteArray):ByteArray).size:=Array.length_toList;have h3:((⟨(runW tl).toArray⟩:ByteArray):ByteArray).data.toList=runW tl:=rfl;rw[h3] at h2;omega)
            have HL10:Hid ((bs ++ [(⟨(runW tl).toArray⟩:ByteArray)]).length≤k+1+1):=hid (by rw[List.length_append];have:=HBN.out;show bs.length+1≤_;omega);clear ho10 hb10 hown hal hbs;go_wp2;go_roundw
            case rel=>exact⟨k+1,_,HLT.out,(by first | rfl | (rw[hwk];rfl)),HB10,HO10,HN10,HM10,HL10⟩
            case measure=>(try rw[hwk]);exact meas_step5b HLT.out
           ·have de:(er == 0)=false:=by simpa using her
            have de2:(er != 0)=true:=by simpa using her
            have HTT:Hid (tot=([],er)):=hid (by rw[← HT.out,HAT1.out,if_pos her]);have HRE:Hid (r=([],er)):=hid (by rw[HRB.out,HTT.out];unfold finL;rw[if_pos her]);clear her HAT1;go_wp2;go_ret2;exact⟨ret_se HRE.out,HBW7.out⟩
          ·have e3:((s0.k:Int) == 3)=false:=beq_false_of_ne (by omega);by_cases hk4:s0.k=4
           ·have e4:((s0.k:Int) == 4)=true:=by rw[hk4];rfl
            have HAT1:Hid (lineTo (ss.drop k) c (wdL bs)=lineTo (ss.drop (k+1)) c (wdL bs ++ [Lib.itoa (c.get s0.fld)])):=hid (by rw[HAT.out,if_neg hk0,if_neg hk12,if_neg hk3,if_pos hk4]);have hfo:=HFO.out hk4;have HRG:=hid (HNR.out hk4);clear hk0 hk12 hk3 hk4 HAT;rcases hfo with hff | hff | hff | hff | hff | hff | hff
            ·have hfe:fn=.func 56:=by
              have h:=HFV.out;rw[hff] at h;injection h
             subst hfe;have HAT:Hid (lineTo (ss.drop k) c (wdL bs)=lineTo (ss.drop (k+1)) c (wdL bs ++ [Lib.itoa c.x])):=hid (by have h:=HAT1.out;rw[hff] at h;exact h);have hrg:-1048576≤c.x∧c.x≤1048576:=by have h:=HRG.out;rw[hff] at h;exact h
             have HIT:=hid (itoa_any c.x (by omega) (by omega) w6 (HG.out.ext HBW6.out));have HIL:Hid ((Lib.itoa c.x).length≤21):=hid (Lib.itoa_length_le _ (by omega) (by omega));clear hff HAT1 hrg HRG;go_wp2_with (go_at_call 56;refine (fld1_any _ _).mono ?_;rintro e w8 ⟨rfl,hw⟩;rw[← hw];clear hw;refine Hid.out ?_);refine hid ?_;go_wp2_with (go_at_call 35;refine HIT.out.mono ?_;intro e w9 hx;obtain⟨rfl,hb9⟩:=hx;refine Hid.out ?_);refine hid ?_;have HB9:=hid (HB6.out.trans (hb9.mono HB6.out.size));have HO9:=hid (HO6.out.ext hb9);clear hb9 HIT HB6 HO6 HKP6 y0 y1 y2 x0 x1 x2 x3 x4 x5 x6 x7 x8 x9;have hown:=HO9.out;have hal:bs.length < 4294967296:=by have:=HBN.out;have:=HSN.out;omega
             have hbs:w2.heap.size≤w9.heap.size:=HB9.out.size;have HN:Hid (lineTo (ss.drop (k+1)) c (wdL bs ++ [Lib.itoa c.x])=tot):=hid (by rw[← HT.out,HAT.out]);have HWN:Hid ((Lib.itoa c.x:List UInt8).length≤100000):=hid (by have:=HIL.out;omega);clear HAT HT;go_wp2_with (at_builtin;refine wpList_pushS rfl _ _ 44 rfl w2.heap.size 9 (by kernel_rfl) Tryz.infoString u6 bs rfl hown (⟨(Lib.itoa c.x).toArray⟩:ByteArray) rfl hal hbs ?_);intro v' w10 ho10 hb10;have HO10:=hid ho10;have HB10:=hid (HB9.out.trans hb10);have HN10:Hid (lineTo (ss.drop (k+1)) c (wdL (bs ++ [(⟨(Lib.itoa c.x).toArray⟩:ByteArray)]))=tot):=hid (by rw[wdL_snoc];exact HN.out);have HM10:Hid (∀ b ∈ bs ++ [(⟨(Lib.itoa c.x).toArray⟩:ByteArray)],b.size≤100000):=hid (fun b hb=>by
              rcases List.mem_append.1 hb with hb | hb
              ·exact HBM.out b hb
              ·rw[List.mem_singleton.1 hb];have h:=HWN.out;have h2:((⟨(Lib.itoa c.x).toArray⟩:ByteArray):ByteArray).data.toList.length=((⟨(Lib.itoa c.x).toArray⟩:ByteArray):ByteArray).size:=Array.length_toList;have h3:((⟨(Lib.itoa c.x).toArray⟩:ByteArray):ByteArray).data.toList=Lib.itoa c.x:=rfl;rw[h3] at h2;omega)
             have HL10:Hid ((bs ++ [(⟨(Lib.itoa c.x).toArray⟩:ByteArray)]).length≤k+1+1):=hid (by rw[List.length_append];have:=HBN.out;show bs.length+1≤_;omega);clear ho10 hb10 hown hal hbs;go_wp2;go_roundw
             case rel=>exact⟨k+1,_,HLT.out,(by first | rfl | (rw[hwk];rfl)),HB10,HO10,HN10,HM10,HL10⟩
             case measure=>(try rw[hwk]);exact meas_step5b HLT.out
            ·have hfe:fn=.func 57:=by
              have h:=HFV.out;rw[hff] at h;injection h
             subst hfe;have HAT:Hid (lineTo (ss.drop k) c (wdL bs)=lineTo (ss.drop (k+1)) c (wdL bs ++ [Lib.itoa c.y])):=hid (by have h:=HAT1.out;rw[hff] at h;exact h);have hrg:-1048576≤c.y∧c.y≤1048576:=by have h:=HRG.out;rw[hff] at h;exact h
             have HIT:=hid (itoa_any c.y (by omega) (by omega) w6 (HG.out.ext HBW6.out));have HIL:Hid ((Lib.itoa c.y).length≤21):=hid (Lib.itoa_length_le _ (by omega) (by omega));clear hff HAT1 hrg HRG;go_wp2_with (go_at_call 57;refine (fld2_any _ _).mono ?_;rintro e w8 ⟨rfl,hw⟩;rw[← hw];clear hw;refine Hid.out ?_);refine hid ?_;go_wp2_with (go_at_call 35;refine HIT.out.mono ?_;intro e w9 hx;obtain⟨rfl,hb9⟩:=hx;refine Hid.out ?_);refine hid ?_;have HB9:=hid (HB6.out.trans (hb9.mono HB6.out.size));have HO9:=hid (HO6.out.ext hb9);clear hb9 HIT HB6 HO6 HKP6 y0 y1 y2 x0 x1 x2 x3 x4 x5 x6 x7 x8 x9;have hown:=HO9.out;have hal:bs.length < 4294967296:=by have:=HBN.out;have:=HSN.out;omega
             have hbs:w2.heap.size≤w9.heap.size:=HB9.out.size;have HN:Hid (lineTo (ss.drop (k+1)) c (wdL bs ++ [Lib.itoa c.y])=tot):=hid (by rw[← HT.out,HAT.out]);have HWN:Hid ((Lib.itoa c.y:List UInt8).length≤100000):=hid (by have:=HIL.out;omega);clear HAT HT;go_wp2_with (at_builtin;refine wpList_pushS rfl _ _ 44 rfl w2.heap.size 9 (by kernel_rfl) Tryz.infoString u6 bs rfl hown (⟨(Lib.itoa c.y).toArray⟩:ByteArray) rfl hal hbs ?_);intro v' w10 ho10 hb10;have HO10:=hid ho10;have HB10:=hid (HB9.out.trans hb10);have HN10:Hid (lineTo (ss.drop (k+1)) c (wdL (bs ++ [(⟨(Lib.itoa c.y).toArray⟩:ByteArray)]))=tot):=hid (by rw[wdL_snoc];exact HN.out);have HM10:Hid (∀ b ∈ bs ++ [(⟨(Lib.itoa c.y).toArray⟩:ByteArray)],b.size≤100000):=hid (fun b hb=>by
              rcases List.mem_append.1 hb with hb | hb
              ·exact HBM.out b hb
              ·rw[List.mem_singleton.1 hb];have h:=HWN.out;have h2:((⟨(Lib.itoa c.y).toArray⟩:ByteArray):ByteArray).data.toList.length=((⟨(Lib.itoa c.y).toArray⟩:ByteArray):ByteArray).size:=Array.length_toList;have h3:((⟨(Lib.itoa c.y).toArray⟩:ByteArray):ByteArray).data.toList=Lib.itoa c.y:=rfl;rw[h3] at h2;omega)
             have HL10:Hid ((bs ++ [(⟨(Lib.itoa c.y).toArray⟩:ByteArray)]).length≤k+1+1):=hid (by rw[List.length_append];have:=HBN.out;show bs.length+1≤_;omega);clear ho10 hb10 hown hal hbs;go_wp2;go_roundw
             case rel=>exact⟨k+1,_,HLT.out,(by first | rfl | (rw[hwk];rfl)),HB10,HO10,HN10,HM10,HL10⟩
             case measure=>(try rw[hwk]);exact meas_step5b HLT.out
            ·have hfe:fn=.func 62:=by
              have h:=HFV.out;rw[hff] at h;injection h
             subst hfe;have HAT:Hid (lineTo (ss.drop k) c (wdL bs)=lineTo (ss.drop (k+1)) c (wdL bs ++ [Lib.itoa c.n])):=hid (by have h:=HAT1.out;rw[hff] at h;exact h);have hrg:-1048576≤c.n∧c.n≤1048576:=by have h:=HRG.out;rw[hff] at h;exact h
             have HIT:=hid (itoa_any c.n (by omega) (by omega) w6 (HG.out.ext HBW6.out));have HIL:Hid ((Lib.itoa c.n).length≤21):=hid (Lib.itoa_length_le _ (by omega) (by omega));clear hff HAT1 hrg HRG;go_wp2_with (go_at_call 62;refine (fld3_any _ _).mono ?_;rintro e w8 ⟨rfl,hw⟩;rw[← hw];clear hw;refine Hid.out ?_);refine hid ?_;go_wp2_with (go_at_call 35;refine HIT.out.mono ?_;intro e w9 hx;obtain⟨rfl,hb9⟩:=hx;refine Hid.out ?_);refine hid ?_;have HB9:=hid (HB6.out.trans (hb9.mono HB6.out.size));have HO9:=hid (HO6.out.ext hb9);clear hb9 HIT HB6 HO6 HKP6 y0 y1 y2 x0 x1 x2 x3 x4 x5 x6 x7 x8 x9;have hown:=HO9.out;have hal:bs.length < 4294967296:=by have:=HBN.out;have:=HSN.out;omega
             have hbs:w2.heap.size≤w9.heap.size:=HB9.out.size;have HN:Hid (lineTo (ss.drop (k+1)) c (wdL bs ++ [Lib.itoa c.n])=tot):=hid (by rw[← HT.out,HAT.out]);have HWN:Hid ((Lib.itoa c.n:List UInt8).length≤100000):=hid (by have:=HIL.out;omega);clear HAT HT;go_wp2_with (at_builtin;refine wpList_pushS rfl _ _ 44 rfl w2.heap.size 9 (by kernel_rfl) Tryz.infoString u6 bs rfl hown (⟨(Lib.itoa c.n).toArray⟩:ByteArray) rfl hal hbs ?_);intro v' w10 ho10 hb10;have HO10:=hid ho10;have HB10:=hid (HB9.out.trans hb10);have HN10:Hid (lineTo (ss.drop (k+1)) c (wdL (bs ++ [(⟨(Lib.itoa c.n).toArray⟩:ByteArray)]))=tot):=hid (by rw[wdL_snoc];exact HN.out);have HM10:Hid (∀ b ∈ bs ++ [(⟨(Lib.itoa c.n).toArray⟩:ByteArray)],b.size≤100000):=hid (fun b hb=>by
              rcases List.mem_append.1 hb with hb | hb
              ·exact HBM.out b hb
              ·rw[List.mem_singleton.1 hb];have h:=HWN.out;have h2:((⟨(Lib.itoa c.n).toArray⟩:ByteArray):ByteArray).data.toList.length=((⟨(Lib.itoa c.n).toArray⟩:ByteArray):ByteArray).size:=Array.length_toList;have h3:((⟨(Lib.itoa c.n).toArray⟩:ByteArray):ByteArray).data.toList=Lib.itoa c.n:=rfl;rw[h3] at h2;omega)
             have HL10:Hid ((bs ++ [(⟨(Lib.itoa c.n).toArray⟩:ByteArray)]).length≤k+1+1):=hid (by rw[List.length_append];have:=HBN.out;show bs.length+1≤_;omega);clear ho10 hb10 hown hal hbs;go_wp2;go_roundw
             case rel=>exact⟨k+1,_,HLT.out,(by first | rfl | (rw[hwk];rfl)),HB10,HO10,HN10,HM10,HL10⟩
             case measure=>(try rw[hwk]);exact meas_step5b HLT.out
            ·have hfe:fn=.func 63:=by
              have h:=HFV.out;rw[hff] at h;injection h
             subst hfe;have HAT:Hid (lineTo (ss.drop k) c (wdL bs)=lineTo (ss.drop (k+1)) c (wdL bs ++ [Lib.itoa c.m])):=hid (by have h:=HAT1.out;rw[hff] at h;exact h);have hrg:-1048576≤c.m∧c.m≤1048576:=by have h:=HRG.out;rw[hff] at h;exact h
             have HIT:=hid (itoa_any c.m (by omega) (by omega) w6 (HG.out.ext HBW6.out));have HIL:Hid ((Lib.itoa c.m).length≤21):=hid (Lib.itoa_length_le _ (by omega) (by omega));clear hff HAT1 hrg HRG;go_wp2_with (go_at_call 63;refine (fld4_any _ _).mono ?_;rintro e w8 ⟨rfl,hw⟩;rw[← hw];clear hw;refine Hid.out ?_);refine hid ?_;go_wp2_with (go_at_call 35;refine HIT.out.mono ?_;intro e w9 hx;obtain⟨rfl,hb9⟩:=hx;refine Hid.out ?_);refine hid ?_;have HB9:=hid (HB6.out.trans (hb9.mono HB6.out.size));have HO9:=hid (HO6.out.ext hb9);clear hb9 HIT HB6 HO6 HKP6 y0 y1 y2 x0 x1 x2 x3 x4 x5 x6 x7 x8 x9;have hown:=HO9.out;have hal:bs.length < 4294967296:=by have:=HBN.out;have:=HSN.out;omega
             have hbs:w2.heap.size≤w9.heap.size:=HB9.out.size;have HN:Hid (lineTo (ss.drop (k+1)) c (wdL bs ++ [Lib.itoa c.m])=tot):=hid (by rw[← HT.out,HAT.out]);have HWN:Hid ((Lib.itoa c.m:List UInt8).length≤100000):=hid (by have:=HIL.out;omega);clear HAT HT;go_wp2_with (at_builtin;refine wpList_pushS rfl _ _ 44 rfl w2.heap.size 9 (by kernel_rfl) Tryz.infoString u6 bs rfl hown (⟨(Lib.itoa c.m).toArray⟩:ByteArray) rfl hal hbs ?_);intro v' w10 ho10 hb10;have HO10:=hid ho10;have HB10:=hid (HB9.out.trans hb10);have HN10:Hid (lineTo (ss.drop (k+1)) c (wdL (bs ++ [(⟨(Lib.itoa c.m).toArray⟩:ByteArray)]))=tot):=hid (by rw[wdL_snoc];exact HN.out);have HM10:Hid (∀ b ∈ bs ++ [(⟨(Lib.itoa c.m).toArray⟩:ByteArray)],b.size≤100000):=hid (fun b hb=>by
              rcases List.mem_append.1 hb with hb | hb
              ·exact HBM.out b hb
              ·rw[List.mem_singleton.1 hb];have h:=HWN.out;have h2:((⟨(Lib.itoa c.m).toArray⟩:ByteArray):ByteArray).data.toList.length=((⟨(Lib.itoa c.m).toArray⟩:ByteArray):ByteArray).size:=Array.length_toList;have h3:((⟨(Lib.itoa c.m).toArray⟩:ByteArray):ByteArray).data.toList=Lib.itoa c.m:=rfl;rw[h3] at h2;omega)
             have HL10:Hid ((bs ++ [(⟨(Lib.itoa c.m).toArray⟩:ByteArray)]).length≤k+1+1):=hid (by rw[List.length_append];have:=HBN.out;show bs.length+1≤_;omega);clear ho10 hb10 hown hal hbs;go_wp2;go_roundw
             case rel=>exact⟨k+1,_,HLT.out,(by first | rfl | (rw[hwk];rfl)),HB10,HO10,HN10,HM10,HL10⟩
             case measure=>(try rw[hwk]);exact meas_step5b HLT.out
            ·have hfe:fn=.func 58:=by
              have h:=HFV.out;rw[hff] at h;injection h
             subst hfe;have HAT:Hid (lineTo (ss.drop k) c (wdL bs)=lineTo (ss.drop (k+1)) c (wdL bs ++ [Lib.itoa c.p])):=hid (by have h:=HAT1.out;rw[hff] at h;exact h);have hrg:-1048576≤c.p∧c.p≤1048576:=by have h:=HRG.out;rw[hff] at h;exact h
             have HIT:=hid (itoa_any c.p (by omega) (by omega) w6 (HG.out.ext HBW6.out));have HIL:Hid ((Lib.itoa c.p).length≤21):=hid (Lib.itoa_length_le _ (by omega) (by omega));clear hff HAT1 hrg HRG;go_wp2_with (go_at_call 58;refine (fld7_any _ _).mono ?_;rintro e w8 ⟨rfl,hw⟩;rw[← hw];clear hw;refine Hid.out ?_);refine hid ?_;go_wp2_with (go_at_call 35;refine HIT.out.mono ?_;intro e w9 hx;obtain⟨rfl,hb9⟩:=hx;refine Hid.out ?_);refine hid ?_;have HB9:=hid (HB6.out.trans (hb9.mono HB6.out.size));have HO9:=hid (HO6.out.ext hb9);clear hb9 HIT HB6 HO6 HKP6 y0 y1 y2 x0 x1 x2 x3 x4 x5 x6 x7 x8 x9;have hown:=HO9.out;have hal:bs.length < 4294967296:=by have:=HBN.out;have:=HSN.out;omega
             have hbs:w2.heap.size≤w9.heap.size:=HB9.out.size;have HN:Hid (lineTo (ss.drop (k+1)) c (wdL bs ++ [Lib.itoa c.p])=tot):=hid (by rw[← HT.out,HAT.out]);have HWN:Hid ((Lib.itoa c.p:List UInt8).length≤100000):=hid (by have:=HIL.out;omega);clear HAT HT;go_wp2_with (at_builtin;refine wpList_pushS rfl _ _ 44 rfl w2.heap.size 9 (by kernel_rfl) Tryz.infoString u6 bs rfl hown (⟨(Lib.itoa c.p).toArray⟩:ByteArray) rfl hal hbs ?_);intro v' w10 ho10 hb10;have HO10:=hid ho10;have HB10:=hid (HB9.out.trans hb10);have HN10:Hid (lineTo (ss.drop (k+1)) c (wdL (bs ++ [(⟨(Lib.itoa c.p).toArray⟩:ByteArray)]))=tot):=hid (by rw[wdL_snoc];exact HN.out);have HM10:Hid (∀ b ∈ bs ++ [(⟨(Lib.itoa c.p).toArray⟩:ByteArray)],b.size≤100000):=hid (fun b hb=>by
              rcases List.mem_append.1 hb with hb | hb
              ·exact HBM.out b hb
              ·rw[List.mem_singleton.1 hb];have h:=HWN.out;have h2:((⟨(Lib.itoa c.p).toArray⟩:ByteArray):ByteArray).data.toList.length=((⟨(Lib.itoa c.p).toArray⟩:ByteArray):ByteArray).size:=Array.length_toList;have h3:((⟨(Lib.itoa c.p).toArray⟩:ByteArray):ByteArray).data.toList=Lib.itoa c.p:=rfl;rw[h3] at h2;omega)
             have HL10:Hid ((bs ++ [(⟨(Lib.itoa c.p).toArray⟩:ByteArray)]).length≤k+1+1):=hid (by rw[List.length_append];have:=HBN.out;show bs.length+1≤_;omega);clear ho10 hb10 hown hal hbs;go_wp2;go_roundw
             case rel=>exact⟨k+1,_,HLT.out,(by first | rfl | (rw[hwk];rfl)),HB10,HO10,HN10,HM10,HL10⟩
             case measure=>(try rw[hwk]);exact meas_step5b HLT.out
            ·have hfe:fn=.func 59:=by
              have h:=HFV.out;rw[hff] at h;injection h
             subst hfe;have HAT:Hid (lineTo (ss.drop k) c (wdL bs)=lineTo (ss.drop (k+1)) c (wdL bs ++ [Lib.itoa c.dx])):=hid (by have h:=HAT1.out;rw[hff] at h;exact h);have hrg:-1048576≤c.dx∧c.dx≤1048576:=by have h:=HRG.out;rw[hff] at h;exact h
             have HIT:=hid (itoa_any c.dx (by omega) (by omega) w6 (HG.out.ext HBW6.out));have HIL:Hid ((Lib.itoa c.dx).length≤21):=hid (Lib.itoa_length_le _ (by omega) (by omega));clear hff HAT1 hrg HRG;go_wp2_with (go_at_call 59;refine (fld8_any _ _).mono ?_;rintro e w8 ⟨rfl,hw⟩;rw[← hw];clear hw;refine Hid.out ?_);refine hid ?_;go_wp2_with (go_at_call 35;refine HIT.out.mono ?_;intro e w9 hx;obtain⟨rfl,hb9⟩:=hx;refine Hid.out ?_);refine hid ?_;have HB9:=hid (HB6.out.trans (hb9.mono HB6.out.size));have HO9:=hid (HO6.out.ext hb9);clear hb9 HIT HB6 HO6 HKP6 y0 y1 y2 x0 x1 x2 x3 x4 x5 x6 x7 x8 x9;have hown:=HO9.out;have hal:bs.length < 4294967296:=by have:=HBN.out;have:=HSN.out;omega
             have hbs:w2.heap.size≤w9.heap.size:=HB9.out.size;have HN:Hid (lineTo (ss.drop (k+1)) c (wdL bs ++ [Lib.itoa c.dx])=tot):=hid (by rw[← HT.out,HAT.out]);have HWN:Hid ((Lib.itoa c.dx:List UInt8).length≤100000):=hid (by have:=HIL.out;omega);clear HAT HT;go_wp2_with (at_builtin;refine wpList_pushS rfl _ _ 44 rfl w2.heap.size 9 (by kernel_rfl) Tryz.infoString u6 bs rfl hown (⟨(Lib.itoa c.dx).toArray⟩:ByteArray) rfl hal hbs ?_);intro v' w10 ho10 hb10;have HO10:=hid ho10;have HB10:=hid (HB9.out.trans hb10);have HN10:Hid (lineTo (ss.drop (k+1)) c (wdL (bs ++ [(⟨(Lib.itoa c.dx).toArray⟩:ByteArray)]))=tot):=hid (by rw[wdL_snoc];exact HN.out);have HM10:Hid (∀ b ∈ bs ++ [(⟨(Lib.itoa c.dx).toArray⟩:ByteArray)],b.size≤100000):=hid (fun b hb=>by
              rcases List.mem_append.1 hb with hb | hb
              ·exact HBM.out b hb
              ·rw[List.mem_singleton.1 hb];have h:=HWN.out;have h2:((⟨(Lib.itoa c.dx).toArray⟩:ByteArray):ByteArray).data.toList.length=((⟨(Lib.itoa c.dx).toArray⟩:ByteArray):ByteArray).size:=Array.length_toList;have h3:((⟨(Lib.itoa c.dx).toArray⟩:ByteArray):ByteArray).data.toList=Lib.itoa c.dx:=rfl;rw[h3] at h2;omega)
             have HL10:Hid ((bs ++ [(⟨(Lib.itoa c.dx).toArray⟩:ByteArray)]).length≤k+1+1):=hid (by rw[List.length_append];have:=HBN.out;show bs.length+1≤_;omega);clear ho10 hb10 hown hal hbs;go_wp2;go_roundw
             case rel=>exact⟨k+1,_,HLT.out,(by first | rfl | (rw[hwk];rfl)),HB10,HO10,HN10,HM10,HL10⟩
             case measure=>(try rw[hwk]);exact meas_step5b HLT.out
            ·have hfe:fn=.func 60:=by
              have h:=HFV.out;rw[hff] at h;injection h
             subst hfe;have HAT:Hid (lineTo (ss.drop k) c (wdL bs)=lineTo (ss.drop (k+1)) c (wdL bs ++ [Lib.itoa c.dy])):=hid (by have h:=HAT1.out;rw[hff] at h;exact h);have hrg:-1048576≤c.dy∧c.dy≤1048576:=by have h:=HRG.out;rw[hff] at h;exact h
             have HIT:=hid (itoa_any c.dy (by omega) (by omega) w6 (HG.out.ext HBW6.out));have HIL:Hid ((Lib.itoa c.dy).length≤21):=hid (Lib.itoa_length_le _ (by omega) (by omega));clear hff HAT1 hrg HRG;go_wp2_with (go_at_call 60;refine (fld9_any _ _).mono ?_;rintro e w8 ⟨rfl,hw⟩;rw[← hw];clear hw;refine Hid.out ?_);refine hid ?_;go_wp2_with (go_at_call 35;refine HIT.out.mono ?_;intro e w9 hx;obtain⟨rfl,hb9⟩:=hx;refine Hid.out ?_);refine hid ?_;have HB9:=hid (HB6.out.trans (hb9.mono HB6.out.size));have HO9:=hid (HO6.out.ext hb9);clear hb9 HIT HB6 HO6 HKP6 y0 y1 y2 x0 x1 x2 x3 x4 x5 x6 x7 x8 x9;have hown:=HO9.out;have hal:bs.length < 4294967296:=by have:=HBN.out;have:=HSN.out;omega
             have hbs:w2.heap.size≤w9.heap.size:=HB9.out.size;have HN:Hid (lineTo (ss.drop (k+1)) c (wdL bs ++ [Lib.itoa c.dy])=tot):=hid (by rw[← HT.out,HAT.out]);have HWN:Hid ((Lib.itoa c.dy:List UInt8).length≤100000):=hid (by have:=HIL.out;omega);clear HAT HT;go_wp2_with (at_builtin;refine wpList_pushS rfl _ _ 44 rfl w2.heap.size 9 (by kernel_rfl) Tryz.infoString u6 bs rfl hown (⟨(Lib.itoa c.dy).toArray⟩:ByteArray) rfl hal hbs ?_);intro v' w10 ho10 hb10;have HO10:=hid ho10;have HB10:=hid (HB9.out.trans hb10);have HN10:Hid (lineTo (ss.drop (k+1)) c (wdL (bs ++ [(⟨(Lib.itoa c.dy).toArray⟩:ByteArray)]))=tot):=hid (by rw[wdL_snoc];exact HN.out);have HM10:Hid (∀ b ∈ bs ++ [(⟨(Lib.itoa c.dy).toArray⟩:ByteArray)],b.size≤100000):=hid (fun b hb=>by
              rcases List.mem_append.1 hb with hb | hb
              ·exact HBM.out b hb
              ·rw[List.mem_singleton.1 hb];have h:=HWN.out;have h2:((⟨(Lib.itoa c.dy).toArray⟩:ByteArray):ByteArray).data.toList.length=((⟨(Lib.itoa c.dy).toArray⟩:ByteArray):ByteArray).size:=Array.length_toList;have h3:((⟨(Lib.itoa c.dy).toArray⟩:ByteArray):ByteArray).data.toList=Lib.itoa c.dy:=rfl;rw[h3] at h2;omega)
             have HL10:Hid ((bs ++ [(⟨(Lib.itoa c.dy).toArray⟩:ByteArray)]).length≤k+1+1):=hid (by rw[List.length_append];have:=HBN.out;show bs.length+1≤_;omega);clear ho10 hb10 hown hal hbs;go_wp2;go_roundw
             case rel=>exact⟨k+1,_,HLT.out,(by first | rfl | (rw[hwk];rfl)),HB10,HO10,HN10,HM10,HL10⟩
             case measure=>(try rw[hwk]);exact meas_step5b HLT.out
           ·have e4:((s0.k:Int) == 4)=false:=beq_false_of_ne (by omega);have HN:Hid (lineTo (ss.drop (k+1)) c (wdL bs)=tot):=hid (by rw[← HT.out,HAT.out,if_neg hk0,if_neg hk12,if_neg hk3,if_neg hk4]);clear hk0 hk12 hk3 hk4 HAT HT;go_wp2;go_roundw
            case rel=>exact⟨k+1,bs,HLT.out,(by first | rfl | (rw[hwk];rfl)),HB6,HO6,HN,HBM,hid (Nat.le_succ_of_le HBN.out)⟩
            case measure=>(try rw[hwk]);exact meas_step5b HLT.out
      ·have hek:k=ss.length:=by omega
       have HTE:Hid (tot=(wdL bs,0)):=hid (by rw[← HT.out,hek,List.drop_length,lineTo_end]);have HRE:Hid (r=(joinW (wdL bs),0)):=hid (by rw[HRB.out,HTE.out];unfold finL;rw[if_neg (by simp)]);have dk:decide ((k:Int) < ss.length)=false:=decide_eq_false (by omega);have hnlt:¬ k < ss.length:=hlt;obtain⟨BA,bc,hbv,hst,-⟩:=HO.out.sts;have hcap:=OwnS.cap HO.out hbv;subst hbv;have HJN:=hid (join_any BA bc bs wr hst (by have:=HBN.out;have:=HSN.out;omega) HBM.out hcap);clear hek hlt HT hst hcap HO;go_wp2_with (go_at_call 36;refine HJN.out.mono ?_;intro e w9 hx;obtain⟨rfl,hb9⟩:=hx;refine Hid.out ?_);refine hid ?_;have HB9:=hid (HBW.out.trans (hb9.mono HBW.out.size));clear hb9;go_wp2;go_ret2;exact⟨ret_se HRE.out,HB9.out⟩
    ·have dk:((ff.kind:Int) != c.kind)=true:=by simpa using hkd
     have HN:Hid ((fs.drop (k+1)).find? (fun f=>decide (f.kind=c.kind))=kf):=hid (by rw[← HT.out,HSTEP.out,if_neg (by rw[decide_eq_false hkd];exact Bool.false_ne_true)]);clear hkd;go_wp2;go_roundw
     case rel=>exact⟨k+1,HLT.out,(by first | rfl | (rw[hwk];rfl)),HB3,HN⟩
     case measure=>(try rw[hwk]);exact meas_step5b HLT.out
   ·have dk:decide ((k:Int) < fs.length)=false:=decide_eq_false (by omega);have hnlt:¬ k < fs.length:=hlt;have HKN:Hid (kf=none):=hid (by rw[← HT.out,List.drop_eq_nil_of_le (by omega)];rfl);have HN:Hid (r=([],2)):=hid (by rw[HRK.out,HKN.out];rfl);clear hlt;go_wp2;go_ret2;exact⟨ret_se HN.out,HBW.out⟩
end Go.Proofs.YtcfelnhmifkelaaGreatDoor
