/-
  texts Rwn56 Rwp56P Rwp56 Knd56 Cln56 Rul56 Sts56: parts of the proof; conditions stand with each theorem.
-/
import Derived.Test.YtcfelnhmifkelaaGreatDoorWG12
import Derived.Test.YtcfelnhmifkelaaGreatDoorWG9
import Derived.Test.YtcfelnhmifkelaaGreatDoorWG11
import Derived.Test.YtcfelnhmifkelaaGreatDoorWG0
import Derived.Laws.Rows
namespace Go.Proofs.YtcfelnhmifkelaaGreatDoor
open Go.RowKit
set_option maxRecDepth 100000
set_option linter.unusedVariables false
set_option linter.unusedSimpArgs false
theorem hasP_cons (c a:UInt8)(l:List UInt8):Lib.hasPrefix (a :: l) [c]=(c == a):=by unfold Lib.hasPrefix;simp[List.isPrefixOf]
theorem numeral_all {l:List UInt8}(h:numeralB l=true):l.all isDig=true:=by
 unfold numeralB at h;simp only[Bool.and_eq_true] at h;exact h.1.1
end Go.Proofs.YtcfelnhmifkelaaGreatDoor
namespace Go.Proofs.YtcfelnhmifkelaaGreatDoor
open Lib(hid)
open Go.RowKit
set_option maxRecDepth 100000
set_option linter.unusedVariables false
set_option linter.unusedSimpArgs false
def kindP (l:List UInt8):Int:=if (parseL8 l).2≠15 then 1 else if (parseG l).2≠15 then 2 else if wolfF l=true then (if Lib.hasPrefix l [87]=true then 3 else 4) else if (10:UInt8) ∈ l then 5 else 0
theorem wolf_pre {l:List UInt8}(h:wolfF l=true)(hW:Lib.hasPrefix l [87]=false):Lib.hasPrefix l [84]=true:=by
 unfold wolfF at h;rw[hW] at h;simp only[Bool.false_eq_true,if_false,Bool.and_eq_true] at h;exact h.1.1.1
theorem contains_lf (l:List UInt8):decide (0≤Lib.indexByte l 10)=decide ((10:UInt8) ∈ l):=by
 by_cases h:(10:UInt8) ∈ l
 ·rw[decide_eq_true h];have:¬ Lib.indexByte l 10 = -1:=fun e=>by
   obtain⟨j,hj,hj2⟩:=List.getElem_of_mem h;exact Lib.indexByte_none e j (by rw[List.getElem?_eq_getElem hj,hj2])
  have h2:=Lib.indexByte_ge l 10
  simp;omega
 ·rw[decide_eq_false h];cases hi:decide (0≤Lib.indexByte l 10) with
  | false=>simp
  | true=>
   have h0:=of_decide_eq_true hi;obtain⟨o,ho⟩:∃ o:Nat,Lib.indexByte l 10=(o:Int):=⟨(Lib.indexByte l 10).toNat,(Int.toNat_of_nonneg h0).symm⟩
   exact absurd (List.mem_of_getElem? (Lib.indexByte_some ho).1) h
theorem ret_i56 {a b:Int}(h:a=b):Ending.returned (.int .i64 a)=.returned (.int .i64 b):=by rw[h]
set_option maxHeartbeats 16000000 in
theorem kind_any (s:ByteArray)(w:World)(hg:GCell w)(he:ErrV w)(hs:s.data.toList.length≤2147483648):Calls Tryz.prog 87 #[.string s] w fun e w'=>e=.returned (.int .i64 (kindP s.data.toList))∧Below w.heap.size w w':=by
 obtain⟨l,hl⟩:∃ l,l=s.data.toList:=⟨_,rfl⟩
 obtain⟨e1,he1⟩:∃ e,e=(parseL8 l).2:=⟨_,rfl⟩
 obtain⟨e2,he2⟩:∃ e,e=(parseG l).2:=⟨_,rfl⟩
 obtain⟨wf,hwf⟩:∃ e,e=wolfF l:=⟨_,rfl⟩
 obtain⟨r,hr⟩:∃ r,r=kindP l:=⟨_,rfl⟩
 rw[← hl,← hr];have HR:Hid (r=if e1≠15 then 1 else if e2≠15 then 2 else if wf=true then (if Lib.hasPrefix l [87]=true then 3 else 4) else if (10:UInt8) ∈ l then 5 else 0):=hid (by rw[hr,he1,he2,hwf];rfl);have HE1:=hid he1;have HE2:=hid he2;have HWF:=hid hwf;have HL:=hid hl;have HS:=hid hs;have HG:=hid hg;have HE:=hid he;have HB:Hid (Below w.heap.size w w):=hid (Below.refl _ _);clear he1 he2 hwf hl hr hg he;go_enter Tryz.func87,Tryz.ntmps87;have HC1:=hid (parse_any8 s w HG.out HS.out);rw[← HL.out] at HC1;have HC2:=hid (fun W (h:GCell W)=>gparse_any s W h HS.out);rw[← HL.out] at HC2;have HC3:=hid (fun W (h:GCell W) (h2:ErrV W)=>wparse_any l W h h2 (by rw[HL.out];exact HS.out));have hsl:(⟨l.toArray⟩:ByteArray)=s:=by rw[HL.out]
 rw[hsl] at HC3;clear hsl hs;have HCALL:=HC1;go_wp2_with (go_at_call 120;refine HCALL.out.mono ?_;intro e w10 hx;obtain⟨A1,a1,B1,b1,C1,c1,rfl,-,hb⟩:=hx;refine Hid.out ?_);refine hid ?_;clear HCALL;replace HB:=hid (HB.out.trans (hb.mono HB.out.size));replace HG:=hid (HG.out.ext hb);replace HE:=hid (HE.out.ext hb);clear hb;obtain⟨tt,htt⟩:∃ tt,tt=((parseL8 l).1:TotL):=⟨_,rfl⟩
 rw[← htt];clear htt;unfold totV;obtain⟨w1,hw⟩:∃ W,W=w10.alloc (.cells #[.slice A1 tt.hood.length a1,.int .i64 tt.states,.slice B1 tt.birth.length b1,.slice C1 tt.survive.length c1] 144):=⟨_,rfl⟩
 have hb:Below w10.heap.size w10 w1:=by rw[hw];exact below_new _ _
 replace HB:=hid (HB.out.trans (hb.mono HB.out.size));replace HG:=hid (HG.out.ext hb);replace HE:=hid (HE.out.ext hb);clear hb;go_upto_region 2 with fail
 rw[← hw];clear hw;rw[← HE1.out];by_cases k1:e1=15
 ·have q1:(e1 != 15)=false:=by rw[k1];rfl
  have HK1:=hid k1;clear k1 HC1;have HCALL:=hid (HC2.out w1 HG.out);go_wp2_with (go_at_call 121;refine HCALL.out.mono ?_;intro e w20 hx;obtain⟨A2,a2,B2,b2,C2,c2,rfl,-,hb⟩:=hx;refine Hid.out ?_);refine hid ?_;clear HCALL;replace HB:=hid (HB.out.trans (hb.mono HB.out.size));replace HG:=hid (HG.out.ext hb);replace HE:=hid (HE.out.ext hb);clear hb;obtain⟨tt,htt⟩:∃ tt,tt=((parseG l).1:TotL):=⟨_,rfl⟩
  rw[← htt];clear htt;unfold totV;obtain⟨w2,hw⟩:∃ W,W=w20.alloc (.cells #[.slice A2 tt.hood.length a2,.int .i64 tt.states,.slice B2 tt.birth.length b2,.slice C2 tt.survive.length c2] 144):=⟨_,rfl⟩
  have hb:Below w20.heap.size w20 w2:=by rw[hw];exact below_new _ _
  replace HB:=hid (HB.out.trans (hb.mono HB.out.size));replace HG:=hid (HG.out.ext hb);replace HE:=hid (HE.out.ext hb);clear hb;go_upto_region 5 with fail
  rw[← hw];clear hw;rw[← HE2.out];by_cases k2:e2=15
  ·have q2:(e2 != 15)=false:=by rw[k2];rfl
   have HK2:=hid k2;clear k2 HC2;have HCALL:=hid (HC3.out w2 HG.out HE.out);go_wp2_with (go_at_call 122;refine HCALL.out.mono ?_;intro e w3 hx;obtain⟨va,vb,vc,ev,rfl,hev,hb⟩:=hx;refine Hid.out ?_);refine hid ?_;clear HCALL HC3;replace HB:=hid (HB.out.trans (hb.mono HB.out.size));replace HG:=hid (HG.out.ext hb);replace HE:=hid (HE.out.ext hb);clear hb;have HEV:Hid (ev=15 ↔ wf=false):=hid (by rw[HWF.out];exact hev);clear hev;have HP:=hid (fun (W:World) (p:ByteArray)=>(Tryz.strings_HasPrefix s p W).mono (fun e w' h=>(⟨h.1,h.2.symm⟩:_∧W=w')));by_cases k3:ev=15
   ·have q3:(ev != 15)=false:=by rw[k3];rfl
    have HW:Hid (wf=false):=hid (HEV.out.1 k3);clear k3;have HCC:=hid ((Tryz.strings_Contains_one s 10 w3).mono (fun e w' h=>(⟨h.1,h.2.symm⟩:_∧w3=w')));rw[← HL.out,contains_lf] at HCC;by_cases k4:(10:UInt8) ∈ l
    ·rw[decide_eq_true k4] at HCC;have HK:Hid (r=5):=hid (by rw[HR.out,if_neg (by rw[HK1.out];simp),if_neg (by rw[HK2.out];simp),HW.out,if_neg (by decide),if_pos k4]);clear k4;go_wp2_with (go_at_call 123;refine HCC.out.mono ?_;rintro e w4 ⟨rfl,rfl⟩;refine Hid.out ?_);refine hid ?_;clear HCC;go_wp2;go_ret;exact⟨ret_i56 HK.out.symm,HB.out⟩
    ·rw[decide_eq_false k4] at HCC;have HK:Hid (r=0):=hid (by rw[HR.out,if_neg (by rw[HK1.out];simp),if_neg (by rw[HK2.out];simp),HW.out,if_neg (by decide),if_neg k4]);clear k4;go_wp2_with (go_at_call 123;refine HCC.out.mono ?_;rintro e w4 ⟨rfl,rfl⟩;refine Hid.out ?_);refine hid ?_;clear HCC;go_wp2;go_ret;exact⟨ret_i56 HK.out.symm,HB.out⟩
   ·have q3:(ev != 15)=true:=bne_iff_ne.2 k3;have HW:Hid (wf=true):=hid (by
     cases hx:wf
     ·exact absurd (HEV.out.2 hx) k3
     ·rfl)
    clear k3;have HPW:=hid (HP.out w3 ⟨#[87]⟩);rw[← HL.out] at HPW;cases k4:Lib.hasPrefix l [87] with
    | true=>
     have HK:Hid (r=3):=hid (by rw[HR.out,if_neg (by rw[HK1.out];simp),if_neg (by rw[HK2.out];simp),if_pos HW.out,if_pos k4]);rw[show Lib.hasPrefix l (⟨#[87]⟩:ByteArray).data.toList=true from k4] at HPW;clear k4;go_wp2_with (go_at_call 65;refine HPW.out.mono ?_;rintro e w4 ⟨rfl,rfl⟩;refine Hid.out ?_);refine hid ?_;clear HPW;go_wp2;go_ret;exact⟨ret_i56 HK.out.symm,HB.out⟩
    | false=>
     have HK:Hid (r=4):=hid (by rw[HR.out,if_neg (by rw[HK1.out];simp),if_neg (by rw[HK2.out];simp),if_pos HW.out,if_neg (by rw[k4];decide)]);have HPT:=hid (HP.out w3 ⟨#[84]⟩);rw[← HL.out,show Lib.hasPrefix l (⟨#[84]⟩:ByteArray).data.toList=true from wolf_pre (by rw[← HWF.out];exact HW.out) k4] at HPT;rw[show Lib.hasPrefix l (⟨#[87]⟩:ByteArray).data.toList=false from k4] at HPW;clear k4;go_wp2_with (go_at_call 65;refine HPW.out.mono ?_;rintro e w4 ⟨rfl,rfl⟩;refine Hid.out ?_);refine hid ?_;clear HPW;go_wp2_with (go_at_call 65;refine HPT.out.mono ?_;rintro e w4 ⟨rfl,rfl⟩;refine Hid.out ?_);refine hid ?_;clear HPT;go_wp2;go_ret;exact⟨ret_i56 HK.out.symm,HB.out⟩
  ·have q2:(e2 != 15)=true:=bne_iff_ne.2 k2;have HK:Hid (r=2):=hid (by rw[HR.out,if_neg (by rw[HK1.out];simp),if_pos k2]);clear k2;go_wp2;go_ret;exact⟨ret_i56 HK.out.symm,HB.out⟩
 ·have q1:(e1 != 15)=true:=bne_iff_ne.2 k1;have HK:Hid (r=1):=hid (by rw[HR.out,if_pos k1]);clear k1;go_wp2;go_ret;exact⟨ret_i56 HK.out.symm,HB.out⟩
end Go.Proofs.YtcfelnhmifkelaaGreatDoor
namespace Go.Proofs.YtcfelnhmifkelaaGreatDoor
open Go.RowKit
set_option maxRecDepth 100000
set_option linter.unusedVariables false
set_option linter.unusedSimpArgs false
def okC (c:UInt8):Bool:=isDig c || [47,66,67,72,83,84,86,87].contains c
theorem okC_dig {c:UInt8}(h:isDig c=true):okC c=true:=by unfold okC;rw[h];rfl
theorem all_dig {l:List UInt8}(h:l.all isDig=true):l.all okC=true:=by
 rw[List.all_eq_true] at h ⊢;exact fun x hx=>okC_dig (h x hx)
theorem all_suffix {l:List UInt8}{x:UInt8}(hs:Lib.hasSuffix l [x]=true)(hx:okC x=true)(h:(Lib.trimSuffix l [x]).all okC=true):l.all okC=true:=by
 unfold Lib.trimSuffix at h;rw[if_pos hs] at h;unfold Lib.hasSuffix at hs;obtain⟨t,rfl⟩:=List.isSuffixOf_iff_suffix.1 hs;rw[List.length_append,Nat.add_sub_cancel,List.take_left] at h;rw[List.all_append,h,List.all_cons,hx];rfl
theorem all_prefix {l:List UInt8}{x:UInt8}(hs:Lib.hasPrefix l [x]=true)(hx:okC x=true)(h:(Lib.trimPrefix l [x]).all okC=true):l.all okC=true:=by
 unfold Lib.trimPrefix at h;rw[if_pos hs] at h;unfold Lib.hasPrefix at hs;obtain⟨t,rfl⟩:=List.isPrefixOf_iff_prefix.1 hs;rw[show ([x] ++ t).drop [x].length=t from rfl] at h;rw[List.all_append,h,List.all_cons,hx];rfl
theorem cut_join {a sep:List UInt8}(h:(Lib.cut a sep).2.2=true):a=(Lib.cut a sep).1 ++ sep ++ (Lib.cut a sep).2.1:=by
 unfold Lib.cut at h ⊢;by_cases h0:0≤Lib.index a sep
 ·rw[if_pos h0];rcases Lib.index_spec a sep with ⟨h1,-⟩ | ⟨i,h1,h2,h3,-⟩
  ·omega
  ·rw[h1,Int.toNat_natCast];unfold Lib.occAt at h3;obtain⟨t,ht⟩:=List.isPrefixOf_iff_prefix.1 h3;dsimp only;rw[← List.drop_drop,← ht,List.drop_left,List.append_assoc,ht,List.take_append_drop]
 ·rw[if_neg h0] at h;cases h
theorem cut_all {a sep:List UInt8}(h:(Lib.cut a sep).2.2=true) (hs:sep.all okC=true)(h1:(Lib.cut a sep).1.all okC=true) (h2:(Lib.cut a sep).2.1.all okC=true):a.all okC=true:=by
 rw[cut_join h,List.all_append,List.all_append,h1,hs,h2];rfl
theorem digL_all {l:List UInt8}(h:(digL l).2=true):l.all okC=true:=by
 unfold digL at h
 split at h
 ·rename_i hd;exact all_dig hd
 ·cases h
theorem numeral_ok {l:List UInt8}(h:numeralB l=true):l.all okC=true:=all_dig (numeral_all h)
theorem clean8 {l:List UInt8}(h:(parseL8 l).2≠15):l.all okC=true:=by
 unfold parseL8 at h;by_cases h1:startB8 l=true
 ·rw[if_pos h1] at h;by_cases h2:(cut3 (restB8 l)).2.2=true
  ·rw[if_pos h2] at h;unfold endP at h;by_cases h3:(digL (cut3 (restB8 l)).1).2=true
   ·rw[if_pos h3] at h;by_cases h4:(digL (hoodP8 (cut3 (restB8 l)).2.1).1).2=true
    ·refine all_prefix h1 (by decide) ?_;refine cut_all (sep:=[47,83]) h2 (by decide) (digL_all h3) ?_;have h5:=digL_all h4;unfold hoodP8 at h5
     split at h5
     ·rename_i hv;exact all_suffix hv (by decide) h5
     ·split at h5
      ·rename_i hv;exact all_suffix hv (by decide) h5
      ·exact h5
    ·rw[if_neg h4] at h;exact absurd rfl h
   ·rw[if_neg h3] at h;exact absurd rfl h
  ·rw[if_neg h2] at h;exact absurd rfl h
 ·rw[if_neg h1] at h;exact absurd rfl h
theorem cleanW {l:List UInt8}(h:wolfF l=true):l.all okC=true:=by
 unfold wolfF at h
 split at h
 ·rename_i hw;exact all_prefix hw (by decide) (numeral_ok h)
 ·simp only[Bool.and_eq_true] at h;exact all_prefix h.1.1.1 (by decide) (cut_all h.1.1.2 (by decide) (numeral_ok h.1.2) (numeral_ok h.2))
theorem digAsc_all:∀ (l:List UInt8)(last:Int),(digAsc9 last l).length=l.length→l.all isDig=true
 | [],_,_=>rfl
 | c :: l,last,h=>by
  unfold digAsc9 at h
  split at h
  ·rename_i hc;rw[Bool.and_eq_true] at hc;rw[List.all_cons,digAsc_all l _ (by simpa using h),Bool.and_true];exact hc.1
  ·simp at h
theorem digG_all {l:List UInt8}(h:(digG l).2=true):l.all okC=true:=by
 unfold digG at h
 split at h
 ·rename_i hd;exact all_dig (digAsc_all l _ hd)
 ·cases h
theorem numG_ok {l:List UInt8}(h:numG l=true):l.all okC=true:=by
 unfold numG at h;simp only[Bool.and_eq_true] at h;exact all_dig h.1.1.1
theorem all_three {a b c:List UInt8}(ha:a.all okC=true)(hb:b.all okC=true)(hc:c.all okC=true):(a ++ 47 :: (b ++ 47 :: c)).all okC=true:=by
 rw[List.all_append,List.all_cons,List.all_append,List.all_cons,ha,hb,hc];rfl
theorem clean9 {l:List UInt8}(h:(parseG l).2≠15):l.all okC=true:=by
 have hm:(hoodP9 l).1.all okC=true:=by
  unfold parseG at h;obtain⟨m,hmm⟩:∃ m,m=(hoodP9 l).1:=⟨_,rfl⟩
  rw[← hmm] at h ⊢;by_cases hc:m.count 47=2
  ·obtain⟨a,b,c,e,h1,h2,h3⟩:=three_of hc;rw[e,parts_three h1 h2 h3] at h;rw[e];unfold form3 at h;by_cases hB:startB9 (a ++ 47 :: (b ++ 47 :: c))=true
   ·rw[if_pos hB] at h;by_cases hS:startS b=true
    ·rw[if_pos hS] at h;by_cases hC:startC c=true
     ·rw[if_pos hC] at h;unfold partG endG at h;dsimp only at h;by_cases k1:(digG (a.drop 1)).2=true
      ·rw[if_pos k1] at h;by_cases k2:(digG (restS b)).2=true
       ·rw[if_pos k2] at h;by_cases k3:numG (restC c)=true
        ·obtain⟨a',ea,-⟩:=startB_cons hB;refine all_three ?_ (all_prefix hS (by decide) (digG_all k2)) (all_prefix hC (by decide) (numG_ok k3));rw[ea] at k1 ⊢;have:=digG_all k1;rw[show (66 :: a':List UInt8).drop 1=a' from rfl] at this;rw[List.all_cons,this];rfl
        ·rw[if_neg k3] at h;exact absurd rfl h
       ·rw[if_neg k2] at h;exact absurd rfl h
      ·rw[if_neg k1] at h;exact absurd rfl h
     ·rw[if_neg hC] at h;exact absurd rfl h
    ·rw[if_neg hS] at h;exact absurd rfl h
   ·rw[if_neg hB] at h;unfold partG endG at h;dsimp only at h;by_cases k1:(digG b).2=true
    ·rw[if_pos k1] at h;by_cases k2:(digG a).2=true
     ·rw[if_pos k2] at h;by_cases k3:numG c=true
      ·exact all_three (digG_all k2) (digG_all k1) (numG_ok k3)
      ·rw[if_neg k3] at h;exact absurd rfl h
     ·rw[if_neg k2] at h;exact absurd rfl h
    ·rw[if_neg k1] at h;exact absurd rfl h
  ·rw[parts_none hc] at h;exact absurd rfl h
 unfold hoodP9 at hm
 split at hm
 ·rename_i hv;exact all_suffix hv (by decide) hm
 ·split at hm
  ·rename_i hv;exact all_suffix hv (by decide) hm
  ·exact hm
def ruleV (l:List UInt8):Bool:=decide (1≤kindP l) && decide (kindP l≤4)
theorem ruleV_clean {l:List UInt8}(h:ruleV l=true):l.all okC=true:=by
 unfold ruleV kindP at h;by_cases h1:(parseL8 l).2≠15
 ·exact clean8 h1
 ·rw[if_neg h1] at h;by_cases h2:(parseG l).2≠15
  ·exact clean9 h2
  ·rw[if_neg h2] at h;by_cases h3:wolfF l=true
   ·exact cleanW h3
   ·rw[if_neg h3] at h;by_cases h4:(10:UInt8) ∈ l
    ·rw[if_pos h4] at h;exact absurd h (by decide)
    ·rw[if_neg h4] at h;exact absurd h (by decide)
theorem ok_ascii (c:UInt8)(h:okC c=true):c.toNat < 128∧c≠32∧c≠10∧c≠35:=by
 have hh:∀ n:Fin 256,okC (UInt8.ofNat n.1)=true→(UInt8.ofNat n.1).toNat < 128∧UInt8.ofNat n.1≠32∧UInt8.ofNat n.1≠10∧UInt8.ofNat n.1≠35:=by decide
 have:=hh ⟨c.toNat,c.toNat_lt⟩;rw[UInt8.ofNat_toNat] at this;exact this h
end Go.Proofs.YtcfelnhmifkelaaGreatDoor
namespace Go.Proofs.YtcfelnhmifkelaaGreatDoor
open Lib(hid)
open Go.RowKit
set_option maxRecDepth 100000
set_option linter.unusedVariables false
set_option linter.unusedSimpArgs false
theorem noAny:∀ {l:List UInt8},l.all okC=true→Lib.indexAny l [32,10] = -1
 | [],_=>rfl
 | c :: l,h=>by
  rw[List.all_cons,Bool.and_eq_true] at h;obtain⟨-,h1,h2,-⟩:=ok_ascii c h.1;rw[Lib.indexAny,noAny h.2];have:([32,10]:List UInt8).contains c=false:=by simp[h1,h2]
  rw[this];rfl
theorem noHash {l:List UInt8}(h:l.all okC=true):Lib.hasPrefix l [35]=false:=by
 cases l with
 | nil=>rfl
 | cons a r=>
  rw[List.all_cons,Bool.and_eq_true] at h;obtain⟨-,-,-,h3⟩:=ok_ascii a h.1;rw[hasP_cons];exact beq_false_of_ne (fun e=>h3 e.symm)
set_option maxHeartbeats 4000000 in
theorem isRule_any (s:ByteArray)(w:World)(hg:GCell w)(he:ErrV w)(hs:s.data.toList.length≤2147483648):Calls Tryz.prog 42 #[.string s] w fun e w'=>e=.returned (.bool (ruleV s.data.toList))∧Below w.heap.size w w':=by
 have hk:=kind_any s w hg he hs;have h6:s.data.toList.length=s.data.size:=Array.length_toList;have hsz:s.size < 4294967281:=by show s.data.size < _;omega
 obtain⟨l,hl⟩:∃ l,l=s.data.toList:=⟨_,rfl⟩
 rw[← hl] at hk ⊢;obtain⟨r,hr⟩:∃ r,r=ruleV l:=⟨_,rfl⟩
 obtain⟨k,hkk⟩:∃ k,k=kindP l:=⟨_,rfl⟩
 rw[← hr];rw[← hkk] at hk;have HR:Hid (r=(decide (1≤k) && decide (k≤4))):=hid (by rw[hr,hkk];rfl);have HRV:=hid hr;have HK:=hid hk;have HL:=hid hl;clear hk hl hr hkk h6 hg he hs;by_cases h1:1≤k
 ·have d1:decide (1≤k)=true:=decide_eq_true h1;by_cases h4:k≤4
  ·have d4:decide (k≤4)=true:=decide_eq_true h4;have HT:Hid (r=true):=hid (by rw[HR.out,d1,d4];rfl);have hcl:=ruleV_clean (l:=l) (by rw[← HRV.out];exact HT.out);have hca:=fun W=>Tryz.strings_ContainsAny_laid s ⟨#[32,10]⟩ W hsz (by decide) (fun j b hb=>by
    rw[← HL.out] at hb;exact (ok_ascii b (List.all_eq_true.1 hcl b (List.mem_of_getElem? hb))).1) (fun j b hb=>by
    have hm:=List.mem_of_getElem? hb;simp at hm;rcases hm with rfl | rfl <;> decide)
   rw[← HL.out] at hca;have hcf:Lib.containsAny l (⟨#[32,10]⟩:ByteArray).data.toList=false:=by
    show Lib.containsAny l [32,10]=false;unfold Lib.containsAny;rw[noAny hcl];rfl
   rw[hcf] at hca;have hpf:=fun W=>(Tryz.strings_HasPrefix s ⟨#[35]⟩ W).mono (fun e w' h=>(⟨h.1,h.2.symm⟩:_∧W=w'));rw[← HL.out,show Lib.hasPrefix l (⟨#[35]⟩:ByteArray).data.toList=false from noHash hcl] at hpf;have HCA:=hid hca;have HPF:=hid hpf;clear hca hpf hcf hcl h1 h4;go_enter Tryz.func42,Tryz.ntmps42;go_wp2_with (go_at_call 87;refine HK.out.mono ?_;intro e w1 hx;obtain⟨rfl,hb1⟩:=hx;refine Hid.out ?_);refine hid ?_;have HB1:=hid hb1;clear hb1 HK;go_wp2_with (go_at_call 88;refine (HCA.out w1).mono ?_;intro e w2 hx;obtain⟨rfl,hb2⟩:=hx;refine Hid.out ?_);refine hid ?_;have HB2:=hid (HB1.out.trans (hb2.mono HB1.out.size));clear hb2 HCA;go_wp2_with (go_at_call 65;refine (HPF.out w2).mono ?_;rintro e w3 ⟨rfl,rfl⟩;refine Hid.out ?_);refine hid ?_;clear HPF;go_wp2;go_ret;exact⟨ret_b56 HT.out.symm,HB2.out⟩
  ·have d4:decide (k≤4)=false:=decide_eq_false h4;have HT:Hid (r=false):=hid (by rw[HR.out,d4,Bool.and_false]);clear h1 h4;go_enter Tryz.func42,Tryz.ntmps42;go_wp2_with (go_at_call 87;refine HK.out.mono ?_;intro e w1 hx;obtain⟨rfl,hb1⟩:=hx;refine Hid.out ?_);refine hid ?_;have HB1:=hid hb1;clear hb1 HK;go_wp2;go_ret;exact⟨ret_b56 HT.out.symm,HB1.out⟩
 ·have d1:decide (1≤k)=false:=decide_eq_false h1;have HT:Hid (r=false):=hid (by rw[HR.out,d1];rfl);clear h1;go_enter Tryz.func42,Tryz.ntmps42;go_wp2_with (go_at_call 87;refine HK.out.mono ?_;intro e w1 hx;obtain⟨rfl,hb1⟩:=hx;refine Hid.out ?_);refine hid ?_;have HB1:=hid hb1;clear hb1 HK;go_wp2;go_ret;exact⟨ret_b56 HT.out.symm,HB1.out⟩
end Go.Proofs.YtcfelnhmifkelaaGreatDoor
namespace Go.Proofs.YtcfelnhmifkelaaGreatDoor
open Go.RowKit
set_option maxRecDepth 100000
set_option linter.unusedVariables false
set_option linter.unusedSimpArgs false
def Sts (w:World)(A:Option Addr)(bs:List ByteArray):Prop:=Reads w w.heap.size 1 A bs.length (bs.map Value.string)∧bs.length≤9223372036854775807
section
variable {w w' : World} {A : Option Addr} {bs : List ByteArray}
theorem Sts.at_ {k:Nat}(h:Sts w A bs)(hk:k < bs.length):∃ b o,A=some ⟨b,o,none⟩∧b < w.heap.size∧w.cell? ⟨b,o+k,none⟩=some (.string bs[k]):=by
 obtain⟨ad,e,hb,hc⟩:=h.1.2 (by omega);have h0:=hc 0 (.string bs[0]) (by simp);have hk':=hc k (.string bs[k]) (by simp[List.getElem?_eq_getElem hk]);obtain⟨b,o,sp⟩:=ad;obtain rfl:=spot_none h0;rw[addr_add] at hk';exact⟨b,o,e,hb,hk'⟩
theorem Sts.ext (h:Sts w A bs)(hb:Below w.heap.size w w'):Sts w' A bs:=⟨(Reads.below h.1 hb).more hb.size,h.2⟩
end
def OwnS (T:TypeId)(w:World)(base:Nat)(v:Value)(bs:List ByteArray):Prop:=w.ownsRow base T 1 v bs.length (bs.map Value.string)
theorem OwnS.sts {T:TypeId}{w:World}{base:Nat}{v:Value}{bs:List ByteArray}(h:OwnS T w base v bs):∃ A c,v=.slice A bs.length c∧Sts w A bs∧NewA base A:=own_form h
theorem OwnS.nil (T:TypeId)(w:World)(base:Nat):OwnS T w base (.slice none 0 0) []:=World.ownsRow_nil _ _ _ _
theorem OwnS.ext {T:TypeId}{w w':World}{base:Nat}{v:Value}{bs:List ByteArray}(h:OwnS T w base v bs)(hb:Below w.heap.size w w'):OwnS T w' base v bs:=own_below h hb
end Go.Proofs.YtcfelnhmifkelaaGreatDoor
