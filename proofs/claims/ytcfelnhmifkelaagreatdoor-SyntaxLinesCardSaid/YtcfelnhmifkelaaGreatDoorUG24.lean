/-
  texts Par56 Sam56: parts of the proof; conditions stand with each theorem.
-/
import Derived.Test.YtcfelnhmifkelaaGreatDoorUCmd56
import Derived.Test.YtcfelnhmifkelaaGreatDoorUG21
import Derived.Test.YtcfelnhmifkelaaGreatDoorUForms
import Derived.Test.YtcfelnhmifkelaaGreatDoorUG20
import Derived.Test.YtcfelnhmifkelaaGreatDoorUG23
import Derived.WalkMore
import Derived.Test.YtcfelnhmifkelaaGreatDoorUG22
import Derived.Test.YtcfelnhmifkelaaGreatDoorUG1
import Derived.BigRegion
namespace Go.Proofs.YtcfelnhmifkelaaGreatDoor
open Lib(hid)
open Go.RowKit
set_option maxRecDepth 100000
set_option linter.unusedVariables false
set_option linter.unusedSimpArgs false
theorem forms_fld2:∀ f ∈ formsP,∀ s ∈ f.slots,s.k=4→FldOk s.fld:=by unfold FldOk;decide
theorem formOf_drop {fs:List Form}{k:Nat}(h:k < fs.length)(p:Form→Bool):(fs.drop k).find? p=if p fs[k]=true then some fs[k] else (fs.drop (k+1)).find? p:=by
 rw[List.drop_eq_getElem_cons h,List.find?_cons];cases p fs[k] <;> rfl
theorem runS_at {ls:List (List UInt8)} {k:Nat}(h:k < ls.length)(a:List Cmd):runS k a (ls.drop k)=match cmdL ls[k] with
  | none=>runS (k+1) a (ls.drop (k+1))
  | some (c,e)=>if e≠0 then ([],(k:Int)+1,e) else runS (k+1) (a ++ [c]) (ls.drop (k+1)):=by
 rw[List.drop_eq_getElem_cons h];rfl
def RetSc (r:List Cmd × Int × Int)(w:World)(e:Ending)(w':World):Prop:=∃ v,e=.returned (.tuple #[v,.int .i64 r.2.1,.int .i64 r.2.2])∧CmsA w' v r.1∧Below w.heap.size w w'
theorem RetSc.bad {r:List Cmd × Int × Int}{w w':World}{i k:Int}(h:r=([],i,k)) (hb:Below w.heap.size w w'):RetSc r w (.returned (.tuple #[.slice none 0 0,.int .i64 i,.int .i64 k])) w':=by
 subst h;exact⟨_,rfl,CmsA.nil _,hb⟩
theorem RetSc.good {r:List Cmd × Int × Int}{w w':World}{v:Value}{l:List Cmd}(h:r=(l,0,0)) (hv:CmsA w' v l)(hb:Below w.heap.size w w'):RetSc r w (.returned (.tuple #[v,.int .i64 0,.int .i64 0])) w':=by
 subst h;exact⟨_,rfl,hv,hb⟩
theorem cmdL_words2 {l:List UInt8}(h:wordsOf l≠[]):cmdL l=some (match formOf (wordsOf l) with | none=>(cmd0,15) | some f=>cmdP f (wordsOf l)):=by
 unfold cmdL;rw[if_neg h];cases formOf (wordsOf l) <;> rfl
theorem cmdL_empty {l:List UInt8}(h:wordsOf l=[]):cmdL l=none:=by unfold cmdL;rw[if_pos h]
theorem splitC_part (c:UInt8):∀ (l:List UInt8),∀ p ∈ splitC c l,p.length≤l.length
 | [],p,h=>by
  rw[splitC,List.mem_singleton] at h;rw[h];exact Nat.le_refl _
 | a :: l,p,h=>by
  have ih:=splitC_part c l;rw[splitC] at h;by_cases ha:a=c
  ·rw[if_pos ha] at h;rcases List.mem_cons.1 h with rfl | h
   ·exact Nat.zero_le _
   ·exact Nat.le_succ_of_le (ih p h)
  ·rw[if_neg ha] at h;cases e:splitC c l with
   | nil=>exact absurd e (splitC_neS c l)
   | cons q qs=>
    rw[e] at h ih;rcases List.mem_cons.1 h with rfl | h
    ·exact Nat.succ_le_succ (ih q List.mem_cons_self)
    ·exact Nat.le_succ_of_le (ih p (List.mem_cons_of_mem _ h))
theorem lines_part (l:List UInt8):∀ p ∈ linesP l,p.length≤l.length:=by
 intro p hp;unfold linesP at hp
 split at hp
 ·exact splitC_part 10 l p (List.dropLast_subset _ hp)
 ·exact splitC_part 10 l p hp
theorem words_part (l:List UInt8):∀ p ∈ wordsOf l,p.length≤l.length:=by
 have key:∀ (ps:List (List UInt8)),∀ p ∈ wordsTo ps,p ∈ ps:=by
  intro ps;induction ps with
  | nil=>intro p hp;exact hp
  | cons a ps ih=>
   intro p hp;rw[wordsTo] at hp
   split at hp
   ·cases hp
   ·split at hp
    ·exact List.mem_cons_of_mem _ (ih p hp)
    ·rcases List.mem_cons.1 hp with rfl | hp
     ·exact List.mem_cons_self
     ·exact List.mem_cons_of_mem _ (ih p hp)
 intro p hp;exact splitC_part 32 l p (key _ p hp)
def finS (k:Nat)(acc:List Cmd)(rest ws:List (List UInt8)):Option Form→List Cmd × Int × Int
 | none=>([],(k:Int)+1,15)
 | some f=>if (cmdP f ws).2≠0 then ([],(k:Int)+1,(cmdP f ws).2) else runS (k+1) (acc ++ [(cmdP f ws).1]) rest
set_option maxHeartbeats 32000000 in
theorem parse56_any (s:ByteArray)(w:World)(hg:GCell w)(he:ErrV w)(hs:s.data.toList.length≤70000) :
  Calls Tryz.prog 10 #[.string s] w (RetSc (scrP s.data.toList) w):=by
 obtain⟨l,hl⟩:∃ x,x=s.data.toList:=⟨_,rfl⟩
 obtain⟨r,hr⟩:∃ r,r=scrP l:=⟨_,rfl⟩
 rw[← hl,← hr];have hsz:s.size=l.length:=by rw[hl];exact Array.length_toList.symm
 have dn:=str_nil56 s;rw[← hl] at dn hs;have HL:=hid hl;have HS:=hid hs;have HSZ:=hid hsz;have HG:=hid hg;have HE:=hid he;by_cases h0:l=[]
 ·rw[decide_eq_true h0] at dn;have HN:Hid (r=([],0,0)):=hid (by rw[hr,h0];rfl);clear hr hl h0 hs hsz hg he;go_enter Tryz.func10,Tryz.ntmps10;go_wp2
  go_step3
  go_wp2;(try rw[Exit.noGoto_ret]);go_ret3;exact RetSc.bad HN.out (Below.refl _ _)
 rw[decide_eq_false h0] at dn;have htr:=trim_any s w (by rw[hsz];omega);rw[← hl] at htr;have hspl:=split_any_lines ⟨(Lib.trimSuffix l [10]).toArray⟩ w hg (by
  show (Lib.trimSuffix l [10]).toArray.size≤_;have:(Lib.trimSuffix l [10]).length≤l.length:=by
   unfold Lib.trimSuffix
   split
   ·rw[List.length_take];omega
   ·exact Nat.le_refl _
  simp only[List.size_toArray];omega)
 have htl:splitC 10 (⟨(Lib.trimSuffix l [10]).toArray⟩:ByteArray).data.toList=linesP l:=trim_lines h0;rw[htl] at hspl;have HTR:=hid htr;have HSPL:=hid hspl;have HR:=hid hr;clear hr hl h0 hs hsz hg he htr hspl htl;go_enter Tryz.func10,Tryz.ntmps10;go_wp2
 go_step3
 go_wp2_with (go_at_call 24;refine HTR.out.mono ?_;rintro e w1 ⟨rfl,hw⟩;rw[hw];clear hw;refine Hid.out ?_);refine hid ?_;go_wp2_with (go_at_call 23;refine HSPL.out.mono ?_;rintro e w1 ⟨LA,ls,rfl,hls,hwl,hb1⟩;refine Hid.out ?_);refine hid ?_;have HLS:=hid hls;have HWL:=hid hwl;have HB1:=hid hb1;have HLN:Hid (ls.length=(linesP l).length):=hid (by rw[← hwl];exact (List.length_map _).symm);clear hls hwl hb1 HTR HSPL;go_upto_region 4 with fail
 have hsz2:=HSZ.out;by_cases h1:65536 < l.length
 ·have d1:decide ((65536:Int) < (s.size:Int))=true:=decide_eq_true (by omega);have h1b:65536 < s.size:=by omega
  have HN:Hid (r=([],0,6)):=hid (by rw[HR.out];unfold scrP;rw[if_pos h1]);clear h1 hsz2;go_wp2;(try rw[Exit.noGoto_ret]);go_ret3;exact RetSc.bad HN.out HB1.out
 have d1:decide ((65536:Int) < (s.size:Int))=false:=decide_eq_false (by omega);have h1b:¬ 65536 < s.size:=by omega
 by_cases h2:200 < ls.length
 ·have d2:decide ((200:Int) < (ls.length:Int))=true:=decide_eq_true (by omega);have HN:Hid (r=([],0,6)):=hid (by rw[HR.out];unfold scrP;rw[if_neg h1,if_pos (by rw[← HLN.out];exact h2)]);clear h1 hsz2;go_wp2;(try rw[Exit.noGoto_ret]);go_ret3;exact RetSc.bad HN.out HB1.out
 have d2:decide ((200:Int) < (ls.length:Int))=false:=decide_eq_false (by omega);have HRS:Hid (runS 0 [] (wdL ls)=r):=hid (by rw[HR.out,HWL.out];unfold scrP;rw[if_neg h1,if_neg (by rw[← HLN.out];exact h2)]);have HL2:Hid (ls.length≤200):=hid (by omega);have HPT:Hid (∀ p ∈ wdL ls,p.length≤70000):=hid (fun p hp=>by
  rw[HWL.out] at hp;exact Nat.le_trans (lines_part l p hp) HS.out)
 have HFM:=hid (forms_any w1);have h2b:¬ 200 < ls.length:=h2;clear h1 h2 hsz2;go_wp2_with (go_at_call 25;refine HFM.out.mono ?_;rintro e w2 ⟨v2,rfl,hfa,hb2⟩;refine Hid.out ?_);refine hid ?_;obtain⟨FA,fc,rfl⟩:=hfa.form;have HB2:=hid (HB1.out.trans (hb2.mono HB1.out.size));obtain⟨fs,hfs⟩:∃ x,x=formsP:=⟨_,rfl⟩
 rw[← hfs] at hfa ⊢;have HFS:=hid hfs;have HFA:=hid hfa;have HFN:Hid (fs.length=12):=hid (by rw[hfs];rfl);have HLS2:=hid (HLS.out.ext hb2);clear hfs hfa hb2 HFM HB1 HLS d1 d2 dn h1b h2b HR;go_wp2
 go_step3
 go_wp2;go_loopw [7,31] (fun ov iv wr=>∃ (k:Nat) (acc:List Cmd),k≤ls.length∧iv=.int .i64 k∧Hid (Below w2.heap.size w2 wr)∧Hid (OwnK wr w2.heap.size ov acc)∧Hid (acc.length≤k)∧Hid (runS k acc ((wdL ls).drop k)=r)) (fun _ iv _=>ls.length - (intOf iv).toNat)
 case atStart=>exact⟨0,[],Nat.zero_le _,rfl,hid (Below.refl _ _),hid (OwnK.nil _ _),hid (Nat.le_refl _),HRS⟩
 case round=>
  obtain⟨k,acc,hk,rfl,HBq,HO,HAC,HT⟩:=hrel;have hwk:wrap64 ((k:Int)+1)=(k:Int)+1:=by have:=HL2.out;unfold wrap64;omega
  have HBW:=hid (HB2.out.trans (HBq.out.mono HB2.out.size));by_cases hlt:k < ls.length
  ·obtain⟨lb,lo,e1,-,cl⟩:=(HLS2.out.ext HBq.out).at_ hlt;subst e1;have hkw:k < (wdL ls).length:=by rw[wdL_len];exact hlt
   have hat:=runS_at hkw acc;have hwl:(wdL ls)[k]=ls[k].data.toList:=wdL_at hlt hkw;have hpt:=HPT.out _ (List.getElem_mem hkw);rw[hwl] at hat hpt;obtain⟨y,hy⟩:∃ y,y=ls[k]:=⟨_,rfl⟩
   rw[← hy] at cl hat hpt;have hys:y.size=y.data.toList.length:=Array.length_toList.symm;have HAT:=hid hat;have HPY:=hid hpt;have HLT:=hid hlt;have HSP:=hid (split56_any y wr (by omega));clear hy hat hpt hwl hkw hys;go_wp2_with (go_at_call 26;refine HSP.out.mono ?_;rintro e w3 ⟨WA,wc,bs,rfl,hbs,hbw,hb7,hb3⟩;refine Hid.out ?_);refine hid ?_;have HB3:=hid (HBq.out.trans (hb3.mono HBq.out.size));have HBW3:=hid (HBW.out.trans (hb3.mono HBW.out.size));have HO3:=hid (HO.out.ext hb3);have HBS:=hid hbs;have HBX:=hid hbw;have HB7:=hid hb7;clear hbs hbw hb7 hb3 HSP HO HBq HBW;by_cases h0:bs.length=0
   ·have e0:((bs.length:Int) == 0)=true:=by rw[h0];rfl
    have hw0:wordsOf y.data.toList=[]:=by rw[← HBX.out,List.length_eq_zero_iff.1 h0];rfl
    have HN:Hid (runS (k+1) acc ((wdL ls).drop (k+1))=r):=hid (by rw[← HT.out,HAT.out,cmdL_empty hw0]);clear h0 hw0;go_wp2;go_roundw
    case rel=>exact⟨k+1,acc,HLT.out,(by first | rfl | (rw[hwk];rfl)),HB3,HO3,hid (Nat.le_succ_of_le HAC.out),HN⟩
    case measure=>(try rw[hwk]);exact meas_step5b HLT.out
   ·have e0:((bs.length:Int) == 0)=false:=beq_false_of_ne (by omega);have hw0:wordsOf y.data.toList≠[]:=by
     rw[← HBX.out];intro e;have:=congrArg List.length e;rw[wdL_len] at this;exact h0 this
    have hcl:=cmdL_words2 hw0;obtain⟨ws,hws⟩:∃ x,x=wordsOf y.data.toList:=⟨_,rfl⟩
    have HWP:Hid (∀ b ∈ bs,b.data.toList.length≤70000):=hid (fun b hb=>by
     have h1:b.data.toList ∈ wdL bs:=List.mem_map_of_mem hb;rw[HBX.out] at h1;exact Nat.le_trans (words_part _ _ h1) HPY.out)
    rw[← hws] at hcl HBX;obtain⟨fo,hfo⟩:∃ x,x=formOf ws:=⟨_,rfl⟩
    have HFO:=hid hfo;have HAT2:Hid (runS k acc ((wdL ls).drop k)=finS k acc ((wdL ls).drop (k+1)) ws fo):=hid (by rw[HAT.out,hcl,hfo];cases formOf ws <;> rfl);have hpos:0 < bs.length:=by omega
    have HPOS:=hid hpos;clear h0 hw0 hcl hws hfo HAT hpos;have dk:decide ((k:Int) < ls.length)=true:=decide_eq_true (by omega);go_upto_region 14 with fail
    obtain⟨ov,hov⟩:∃ o,o=u7:=⟨_,rfl⟩
    subst hov;go_loopw [7,43] (fun ov2 iv wr=>∃ j:Nat,j≤fs.length∧ov2=ov∧iv=.int .i64 j∧Hid (Below w3.heap.size w3 wr)∧Hid ((fs.drop j).find? (fun f=>fitsP f ws)=fo)) (fun _ iv _=>fs.length - (intOf iv).toNat)
    case atStart=>exact⟨0,Nat.zero_le _,rfl,rfl,hid (Below.refl _ _),hid (by rw[HFO.out,HFS.out];rfl)⟩
    case round=>
     obtain⟨j,hj,rfl,rfl,HBq,HFT⟩:=hrel;have hwj:wrap64 ((j:Int)+1)=(j:Int)+1:=by have:=HFN.out;unfold wrap64;omega
     have HBW:=hid (HBW3.out.trans (HBq.out.mono HBW3.out.size));have HBX2:=hid (HB3.out.trans (HBq.out.mono HB3.out.size));by_cases hjt:j < fs.length
     ·obtain⟨fb,fof,fcc,sv,efv,hfbl,f0,f1,f2,hsl2⟩:=HFA.out.at_ hjt
      replace f0:=(HBX2.out.cell (World.block_lt_of_cell? _ _ f0)).trans f0
      replace f1:=(HBX2.out.cell (World.block_lt_of_cell? _ _ f1)).trans f1
      replace f2:=(HBX2.out.cell (World.block_lt_of_cell? _ _ f2)).trans f2
      injection efv with efv1 efv2 efv3
      subst efv1 efv3;obtain⟨SA,sc,rfl⟩:=hsl2.form;have HSTEP:=hid (formOf_drop hjt (fun f=>fitsP f ws));have HMEM:Hid (fs[j] ∈ formsP):=hid (by rw[← HFS.out];exact List.getElem_mem hjt);obtain⟨ff,hff⟩:∃ f,f=fs[j]:=⟨_,rfl⟩
      rw[← hff] at f0 f1 f2 hsl2 HSTEP HMEM;have HJT:=hid hjt;obtain⟨w6,hw6⟩:∃ W,W=wr.alloc (.cells #[.string ⟨ff.word.toArray⟩,.int .i64 ff.kind,.slice SA ff.slots.length sc] 52):=⟨_,rfl⟩
      obtain⟨p6,hp6⟩:∃ p,p=wr.heap.size:=⟨_,rfl⟩
      have hk6:Blk w6 p6 52 #[.string ⟨ff.word.toArray⟩,.int .i64 ff.kind,.slice SA ff.slots.length sc]:=by rw[hw6,hp6];exact Blk.new _ _ _
      have hb6:Below wr.heap.size wr w6:=by rw[hw6];exact below_new _ _
      have HB6:=hid (HBq.out.trans (hb6.mono HBq.out.size));have HBW6:=hid (HBW.out.trans (hb6.mono HBW.out.size));have HBX6:=hid (HBX2.out.trans (hb6.mono HBX2.out.size));have HK6:=hid hk6;have HSL2:=hid hsl2;have x0:w6.cell? ⟨p6,0,none⟩=some (.string ⟨ff.word.toArray⟩):=hk6.cell_ 0 _ rfl;have x1:w6.cell? ⟨p6,1,none⟩=some (.int .i64 ff.kind):=hk6.cell_ 1 _ rfl;have x2:w6.cell? ⟨p6,2,none⟩=some (.slice SA ff.slots.length sc):=hk6.cell_ 2 _ rfl;clear hff hk6 hb6 hsl2 HBq HBW HBX2;have hfit:=fits56_any ff (.slice SA ff.slots.length sc) WA wc bs w6 (HSL2.out.ext HBX6.out) (HBS.out.ext HB6.out) HPOS.out (by have:=HB7.out;omega) (fun b hb=>by have:=HWP.out b hb;omega);unfold formV at hfit;rw[HBX.out] at hfit;have HFIT:=hid hfit;clear hfit;go_upto_region 16 with fail
      rw[← hw6,← hp6];clear hw6 hp6 f0 f1 f2;go_wp2_with (go_at_call 27;refine HFIT.out.mono ?_;intro e w7 hx;obtain⟨rfl,hb7⟩:=hx;refine Hid.out ?_);refine hid ?_;have HB7q:=hid (HB6.out.trans (hb7.mono HB6.out.size));have HBW7:=hid (HBW6.out.trans (hb7.mono HBW6.out.size));have HBX7:=hid (HBX6.out.trans (hb7.mono HBX6.out.size));have hk7:=HK6.out.below hb7 HK6.out.lt;obtain⟨bv,hbv⟩:∃ b,b=fitsP ff ws:=⟨_,rfl⟩
      rw[← hbv] at HSTEP ⊢;clear hb7 HFIT HK6 HB6 HBW6 HBX6 x0 x1 x2;cases bv with
      | false=>
       have HN:Hid ((fs.drop (j+1)).find? (fun f=>fitsP f ws)=fo):=hid (by rw[← HFT.out,HSTEP.out,if_neg Bool.false_ne_true]);clear hbv hk7;go_wp2;go_roundw
       case rel=>exact⟨j+1,HJT.out,rfl,(by first | rfl | (rw[hwj];rfl)),HB7q,HN⟩
       case measure=>(try rw[hwj]);exact meas_step5b HJT.out
      | true=>
       have hfs2:fo=some ff:=by rw[← HFT.out,HSTEP.out,if_pos rfl]
       have HLS3:Hid (bs.length=ff.slots.length+1):=hid (by
        have h:=hbv.symm;unfold fitsP at h;rw[Bool.and_eq_true,Bool.and_eq_true,decide_eq_true_eq,decide_eq_true_eq] at h;have h2:=h.1.2;rw[← HBX.out,wdL_len] at h2;omega)
       have hcm:=command_any ff (.slice SA ff.slots.length sc) WA wc bs w7 (HG.out.ext HBW7.out) (HE.out.ext HBW7.out) (HSL2.out.ext HBX7.out) (HBS.out.ext HB7q.out) HLS3.out (by have:=HB7.out;omega) (fun b hb=>by have:=HWP.out b hb;omega) (forms_fld2 ff HMEM.out);unfold formV at hcm;rw[HBX.out] at hcm;have hat:=HAT2.out;rw[hfs2] at hat;unfold finS at hat;dsimp only at hat;obtain⟨rc,hrc⟩:∃ x,x=cmdP ff ws:=⟨_,rfl⟩
       rw[← hrc] at hcm hat;obtain⟨cc,er⟩:=rc;unfold RetCm cmdV at hcm;dsimp only at hcm hat;have HCM:=hid hcm;have HAT3:=hid hat;have x0:w7.cell? ⟨p6,0,none⟩=some (.string ⟨ff.word.toArray⟩):=hk7.cell_ 0 _ rfl;have x1:w7.cell? ⟨p6,1,none⟩=some (.int .i64 ff.kind):=hk7.cell_ 1 _ rfl;have x2:w7.cell? ⟨p6,2,none⟩=some (.slice SA ff.slots.length sc):=hk7.cell_ 2 _ rfl;clear hbv hk7 hcm hat hrc hfs2 HFT HSTEP HAT2;go_wp2_with (go_at_call 28;refine HCM.out.mono ?_;rintro e w8 ⟨A5,c5,rfl,hc5,hn5,hb8⟩;refine Hid.out ?_);refine hid ?_;obtain⟨w9,hw9⟩:∃ W,w8.alloc (.cells #[.int .i64 cc.kind,.int .i64 cc.x,.int .i64 cc.y,.int .i64 cc.n,.int .i64 cc.m,.string (nmV cc),.slice A5 cc.cells.length c5,.int .i64 cc.p,.int .i64 cc.dx,.int .i64 cc.dy] 34)=W:=⟨_,rfl⟩
       obtain⟨p9,hp9⟩:∃ p,w8.heap.size=p:=⟨_,rfl⟩
       have hk9:Blk w9 p9 34 #[.int .i64 cc.kind,.int .i64 cc.x,.int .i64 cc.y,.int .i64 cc.n,.int .i64 cc.m,.string (nmV cc),.slice A5 cc.cells.length c5,.int .i64 cc.p,.int .i64 cc.dx,.int .i64 cc.dy]:=by rw[← hw9,← hp9];exact Blk.new _ _ _
       have hb9:Below w7.heap.size w7 w9:=by rw[← hw9];exact hb8.alloc hb8.size _
       have HB9:=hid (HB7q.out.trans (hb9.mono HB7q.out.size));have HBW9:=hid (HBW7.out.trans (hb9.mono HBW7.out.size));have HBX9:=hid (HBX7.out.trans (hb9.mono HBX7.out.size));have HO9:=hid (HO3.out.ext HB9.out);have HC5:Hid (Cls w9 A5 cc.cells):=hid (hc5.ext (by rw[← hw9];exact below_new _ _));have HN5:Hid (∀ ad,A5=some ad→u7.ownBlock≠some ad.block):=hid (fun ad e e2=>by
        have h1:=hn5 ad e;have h2:=HO3.out.blk_lt e2;have h3:=HB7q.out.size;omega)
       have HK9:=hid hk9;clear hc5 hn5 hb8 hb9 hk9 HCM x0 x1 x2;by_cases her:er=0
       ·subst her;have de:((0:Int) != 0)=false:=rfl;have HN:Hid (runS (k+1) (acc ++ [cc]) ((wdL ls).drop (k+1))=r):=hid (by rw[← HT.out,HAT3.out,if_neg (by simp)]);have hown:=HO9.out;have hcl:=HC5.out;have hna:=HN5.out;have hal:acc.length < 4294967296:=by have:=HAC.out;have:=HL2.out;omega
        have hbs:w2.heap.size≤w9.heap.size:=HBX9.out.size;have HL9:Hid ((acc ++ [cc]).length≤k+1):=hid (by rw[List.length_append];have:=HAC.out;show acc.length+1≤k+1;omega);have z0:w9.cell? ⟨p9,0,none⟩=some (.int .i64 cc.kind):=HK9.out.cell_ 0 _ rfl;have z1:w9.cell? ⟨p9,1,none⟩=some (.int .i64 cc.x):=HK9.out.cell_ 1 _ rfl;have z2:w9.cell? ⟨p9,2,none⟩=some (.int .i64 cc.y):=HK9.out.cell_ 2 _ rfl;have z3:w9.cell? ⟨p9,3,none⟩=some (.int .i64 cc.n):=HK9.out.cell_ 3 _ rfl;have z4:w9.cell? ⟨p9,4,none⟩=some (.int .i64 cc.m):=HK9.out.cell_ 4 _ rfl;have z5:w9.cell? ⟨p9,5,none⟩=some (.string (nmV cc)):=HK9.out.cell_ 5 _ rfl;have z6:w9.cell? ⟨p9,6,none⟩=some (.slice A5 cc.cells.length c5):=HK9.out.cell_ 6 _ rfl;have z7:w9.cell? ⟨p9,7,none⟩=some (.int .i64 cc.p):=HK9.out.cell_ 7 _ rfl;have z8:w9.cell? ⟨p9,8,none⟩=some (.int .i64 cc.dx):=HK9.out.cell_ 8 _ rfl;have z9:w9.cell? ⟨p9,9,none⟩=some (.int .i64 cc.dy):=HK9.out.cell_ 9 _ rfl;clear HAT3 HAC HO9 HC5 HN5;go_upto_region 20 with fail
        (try rw[hw9]);(try rw[hp9]);clear hw9 hp9;go_wp2_with (at_builtin;refine wpList_pushK rfl _ _ _ rfl w2.heap.size Tryz.underlying23 u7 acc rfl hown cc A5 c5 hcl hna rfl hal hbs ?_);intro v' w10 ho10 hb10;have HO10:=hid ho10;have HB10:=hid (HBX9.out.trans hb10);clear ho10 hb10 hown hcl hna hal hbs;go_wp2;go_roundw
        case rel=>exact⟨k+1,acc ++ [cc],HLT.out,(by first | rfl | (rw[hwk];rfl)),HB10,HO10,HL9,HN⟩
        case measure=>(try rw[hwk]);exact meas_step5b HLT.out
       ·have de:(er == 0)=false:=by simpa using her
        have de2:(er != 0)=true:=by simpa using her
        have HN:Hid (r=([],(k:Int)+1,er)):=hid (by rw[← HT.out,HAT3.out,if_pos her]);clear her HAT3;go_wp2;(try rw[Exit.noGoto_ret]);go_ret3;exact RetSc.bad (by rw[hwk];exact HN.out) HBW9.out
     ·have hek:j=fs.length:=by omega
      have hfs2:fo=none:=by rw[← HFT.out,List.drop_eq_nil_of_le (by omega)];rfl
      have HN:Hid (r=([],(k:Int)+1,15)):=hid (by rw[← HT.out,HAT2.out,hfs2];rfl);have dj:decide ((j:Int) < fs.length)=false:=decide_eq_false (by omega);have hnlt:¬ j < fs.length:=hjt;clear hek hfs2 HFT HAT2;go_wp2;(try rw[Exit.noGoto_ret]);go_ret3;exact RetSc.bad (by rw[hwk];exact HN.out) HBW.out
  ·have hek:k=ls.length:=by omega
   have HRE:Hid (r=(acc,0,0)):=hid (by
    rw[← HT.out,List.drop_eq_nil_of_le (by rw[wdL_len];omega)];rfl)
   have dk:decide ((k:Int) < ls.length)=false:=decide_eq_false (by omega);have hnlt:¬ k < ls.length:=hlt;have HC:=hid HO.out.cms;clear hek hlt HT HO;go_wp2;(try rw[Exit.noGoto_ret]);go_ret3;exact RetSc.good HRE.out HC.out HBW.out
set_option maxHeartbeats 8000000 in
theorem rsame_eq (c:Cmd)(A B:Option Addr)(ka kb:Nat)(w:World)(ha:Cls w A c.cells)(hb:Cls w B c.cells) :
  Calls Tryz.prog 22 #[cmdV c (nmV c) (.slice A c.cells.length ka),cmdV c (nmV c) (.slice B c.cells.length kb)] w fun e w'=>e=.returned (.bool true)∧Below w.heap.size w w':=by
 unfold cmdV;obtain⟨w2,hw2⟩:∃ W,(w.alloc (.cells #[.int .i64 c.kind,.int .i64 c.x,.int .i64 c.y,.int .i64 c.n,.int .i64 c.m,.string (nmV c),.slice A c.cells.length ka,.int .i64 c.p,.int .i64 c.dx,.int .i64 c.dy] 34)).alloc (.cells #[.int .i64 c.kind,.int .i64 c.x,.int .i64 c.y,.int .i64 c.n,.int .i64 c.m,.string (nmV c),.slice B c.cells.length kb,.int .i64 c.p,.int .i64 c.dx,.int .i64 c.dy] 34)=W:=⟨_,rfl⟩
 have hk1:Blk w2 w.heap.size 34 #[.int .i64 c.kind,.int .i64 c.x,.int .i64 c.y,.int .i64 c.n,.int .i64 c.m,.string (nmV c),.slice A c.cells.length ka,.int .i64 c.p,.int .i64 c.dx,.int .i64 c.dy]:=by rw[← hw2];exact (Blk.new w _ _).alloc _
 have hk2:Blk w2 (w.heap.size+1) 34 #[.int .i64 c.kind,.int .i64 c.x,.int .i64 c.y,.int .i64 c.n,.int .i64 c.m,.string (nmV c),.slice B c.cells.length kb,.int .i64 c.p,.int .i64 c.dx,.int .i64 c.dy]:=by
  rw[← hw2];have h:=Blk.new (w.alloc (.cells #[.int .i64 c.kind,.int .i64 c.x,.int .i64 c.y,.int .i64 c.n,.int .i64 c.m,.string (nmV c),.slice A c.cells.length ka,.int .i64 c.p,.int .i64 c.dx,.int .i64 c.dy] 34)) 34 #[.int .i64 c.kind,.int .i64 c.x,.int .i64 c.y,.int .i64 c.n,.int .i64 c.m,.string (nmV c),.slice B c.cells.length kb,.int .i64 c.p,.int .i64 c.dx,.int .i64 c.dy];rw[World.size_alloc] at h;exact h
 have hb2:Below w.heap.size w w2:=by rw[← hw2];exact ((Below.refl _ w).alloc (Nat.le_refl _) _).alloc (by simp) _
 have hs:=rsame_any A B ka kb c.cells c.cells w2 (ha.ext hb2) (hb.ext hb2);rw[show sameC c.cells c.cells=true from decide_eq_true rfl] at hs;have HS:=hid hs;have HK1:=hid hk1;have HK2:=hid hk2;have HB2:=hid hb2;have x0:w2.cell? ⟨w.heap.size,0,none⟩=some (.int .i64 c.kind):=hk1.cell_ 0 _ rfl;have y0:w2.cell? ⟨w.heap.size+1,0,none⟩=some (.int .i64 c.kind):=hk2.cell_ 0 _ rfl;have x1:w2.cell? ⟨w.heap.size,1,none⟩=some (.int .i64 c.x):=hk1.cell_ 1 _ rfl;have y1:w2.cell? ⟨w.heap.size+1,1,none⟩=some (.int .i64 c.x):=hk2.cell_ 1 _ rfl;have x2:w2.cell? ⟨w.heap.size,2,none⟩=some (.int .i64 c.y):=hk1.cell_ 2 _ rfl;have y2:w2.cell? ⟨w.heap.size+1,2,none⟩=some (.int .i64 c.y):=hk2.cell_ 2 _ rfl;have x3:w2.cell? ⟨w.heap.size,3,none⟩=some (.int .i64 c.n):=hk1.cell_ 3 _ rfl;have y3:w2.cell? ⟨w.heap.size+1,3,none⟩=some (.int .i64 c.n):=hk2.cell_ 3 _ rfl;have x4:w2.cell? ⟨w.heap.size,4,none⟩=some (.int .i64 c.m):=hk1.cell_ 4 _ rfl;have y4:w2.cell? ⟨w.heap.size+1,4,none⟩=some (.int .i64 c.m):=hk2.cell_ 4 _ rfl;have x5:w2.cell? ⟨w.heap.size,5,none⟩=some (.string (nmV c)):=hk1.cell_ 5 _ rfl;have y5:w2.cell? ⟨w.heap.size+1,5,none⟩=some (.string (nmV c)):=hk2.cell_ 5 _ rfl;have x6:w2.cell? ⟨w.heap.size,6,none⟩=some (.slice A c.cells.length ka):=hk1.cell_ 6 _ rfl;have y6:w2.cell? ⟨w.heap.size+1,6,none⟩=some (.slice B c.cells.length kb):=hk2.cell_ 6 _ rfl;have x7:w2.cell? ⟨w.heap.size,7,none⟩=some (.int .i64 c.p):=hk1.cell_ 7 _ rfl;have y7:w2.cell? ⟨w.heap.size+1,7,none⟩=some (.int .i64 c.p):=hk2.cell_ 7 _ rfl;have x8:w2.cell? ⟨w.heap.size,8,none⟩=some (.int .i64 c.dx):=hk1.cell_ 8 _ rfl;have y8:w2.cell? ⟨w.heap.size+1,8,none⟩=some (.int .i64 c.dx):=hk2.cell_ 8 _ rfl;have x9:w2.cell? ⟨w.heap.size,9,none⟩=some (.int .i64 c.dy):=hk1.cell_ 9 _ rfl;have y9:w2.cell? ⟨w.heap.size+1,9,none⟩=some (.int .i64 c.dy):=hk2.cell_ 9 _ rfl;have q0:((c.kind:Int) == c.kind)=true:=beq_self_eq_true _;have q1:((c.x:Int) == c.x)=true:=beq_self_eq_true _;have q2:((c.y:Int) == c.y)=true:=beq_self_eq_true _;have q3:((c.n:Int) == c.n)=true:=beq_self_eq_true _;have q4:((c.m:Int) == c.m)=true:=beq_self_eq_true _;clear hs hk1 hk2 hb2 ha hb;go_enter Tryz.func22,Tryz.ntmps22;go_upto_region 1 with fail
 (try rw[hw2]);clear hw2;go_wp2_with (go_at_call 51;refine HS.out.mono ?_;intro e w3 hx;obtain⟨rfl,hb3⟩:=hx;refine Hid.out ?_);refine hid ?_;clear x0 y0 x1 y1 x2 y2 x3 y3 x4 y4 x5 y5 x6 y6 x7 y7 x8 y8 x9 y9;have x7:w3.cell? ⟨w.heap.size,7,none⟩=some (.int .i64 c.p):=(HK1.out.below hb3 HK1.out.lt).cell_ 7 _ rfl;have y7:w3.cell? ⟨w.heap.size+1,7,none⟩=some (.int .i64 c.p):=(HK2.out.below hb3 HK2.out.lt).cell_ 7 _ rfl;have x8:w3.cell? ⟨w.heap.size,8,none⟩=some (.int .i64 c.dx):=(HK1.out.below hb3 HK1.out.lt).cell_ 8 _ rfl;have y8:w3.cell? ⟨w.heap.size+1,8,none⟩=some (.int .i64 c.dx):=(HK2.out.below hb3 HK2.out.lt).cell_ 8 _ rfl;have x9:w3.cell? ⟨w.heap.size,9,none⟩=some (.int .i64 c.dy):=(HK1.out.below hb3 HK1.out.lt).cell_ 9 _ rfl;have y9:w3.cell? ⟨w.heap.size+1,9,none⟩=some (.int .i64 c.dy):=(HK2.out.below hb3 HK2.out.lt).cell_ 9 _ rfl;have HB3:=hid (HB2.out.trans (hb3.mono HB2.out.size));clear hb3;go_wp2;go_ret;exact⟨rfl,HB3.out⟩
end Go.Proofs.YtcfelnhmifkelaaGreatDoor
