/-
  texts Wlf56 Wpa56 Rwn56 Rwp56P: parts of the proof; conditions stand with each theorem.
-/
import Derived.Test.YtcfelnhmifkelaaGreatDoorUG16
import Derived.Shelf.Strings.SlTrimAscii
import Derived.Test.YtcfelnhmifkelaaGreatDoorUG14
import Derived.Test.YtcfelnhmifkelaaGreatDoorUHdr
namespace Go.Proofs.YtcfelnhmifkelaaGreatDoor
open Lib(hid)
open Go.RowKit
set_option maxRecDepth 100000
set_option linter.unusedVariables false
set_option linter.unusedSimpArgs false
def numeralB (l:List UInt8):Bool:=l.all isDig && decide (1≤l.length) && !(decide (1 < l.length) && (l.headD 0 == 48))
def tenL:List UInt8:=[48,49,50,51,52,53,54,55,56,57]
theorem ten_dig (c:UInt8):tenL.contains c=isDig c:=by
 have h:∀ n:Fin 256,tenL.contains (UInt8.ofNat n.1)=isDig (UInt8.ofNat n.1):=by decide
 have:=h ⟨c.toNat,c.toNat_lt⟩;rwa [UInt8.ofNat_toNat] at this
theorem dropW_nil {p:UInt8→Bool}:∀ {l:List UInt8},l.all p=true→l.dropWhile p=[]
 | [],_=>rfl
 | a :: l,h=>by
  rw[List.all_cons,Bool.and_eq_true] at h;rw[List.dropWhile_cons,h.1];exact dropW_nil h.2
theorem dropW_some {p:UInt8→Bool}:∀ {l:List UInt8},l.any (fun c=>!p c)=true→(l.dropWhile p).any (fun c=>!p c)=true
 | a :: l,h=>by
  rw[List.dropWhile_cons];cases ha:p a with
  | true=>
   rw[List.any_cons,ha] at h;exact dropW_some h
  | false=>
   simp only[Bool.false_eq_true,if_false];rw[List.any_cons,ha];rfl
theorem trim_ten (l:List UInt8):(Lib.trimS l tenL).isEmpty=l.all isDig:=by
 unfold Lib.trimS Lib.trimLeftS Lib.trimRightS;rw[show (fun x=>tenL.contains x)=isDig from funext ten_dig];cases h:l.all isDig with
 | true=>
  rw[dropW_nil (l:=l.reverse) (by rw[List.all_reverse];exact h)];rfl
 | false=>
  have h1:l.reverse.any (fun c=>!isDig c)=true:=by
   rw[List.any_reverse];rw[List.all_eq_false] at h;obtain⟨x,hx,hx2⟩:=h;exact List.any_eq_true.2 ⟨x,hx,by simpa using hx2⟩
  have h2:=dropW_some h1;have h3:((l.reverse.dropWhile isDig).reverse).any (fun c=>!isDig c)=true:=by rw[List.any_reverse];exact h2
  have h4:=dropW_some h3;cases hx:((l.reverse.dropWhile isDig).reverse).dropWhile isDig with
  | nil=>rw[hx] at h4;cases h4
  | cons a r=>rfl
theorem parseUint_digits:∀ (l:List UInt8)(acc:Nat),l.all isDig=true→(∃ v,Lib.parseUint10 acc l=.ok v)∨Lib.parseUint10 acc l=.range
 | [],acc,_=>.inl ⟨acc,by unfold Lib.parseUint10;rfl⟩
 | c :: l,acc,h=>by
  rw[List.all_cons,Bool.and_eq_true] at h;have hc:=h.1;unfold isDig at hc;simp only[Bool.and_eq_true,decide_eq_true_eq] at hc;unfold Lib.parseUint10;rw[if_pos (by omega)]
  split
  ·exact .inr rfl
  ·split
   ·exact .inr rfl
   ·exact parseUint_digits l _ h.2
theorem atoi_numeral {l:List UInt8}(h:numeralB l=true):(∃ v,Lib.atoiAll l=.ok v∧v≤9223372036854775807)∨Lib.atoiAll l=.range:=by
 unfold numeralB at h;simp only[Bool.and_eq_true,decide_eq_true_eq] at h;cases l with
 | nil=>simp at h
 | cons c r=>
  have hc:isDig c=true:=by have:=h.1.1;rw[List.all_cons,Bool.and_eq_true] at this;exact this.1
  unfold isDig at hc;simp only[Bool.and_eq_true,decide_eq_true_eq] at hc;have h45:¬ c.toNat=45:=by omega
  have h43:¬ (c.toNat=43∨c.toNat=45):=by omega
  unfold Lib.atoiAll;dsimp only;rw[if_neg h43];have hs:=parseUint_digits (c :: r) 0 h.1.1;have hm:Lib.parseMag (c :: r)=Lib.parseUint10 0 (c :: r):=by unfold Lib.parseMag;rw[if_neg (by simp)]
  rw[hm];rcases hs with ⟨u,hp⟩ | hp
  ·rw[hp];by_cases hu:9223372036854775808≤u
   ·refine .inr ?_;simp[hu,h45]
   ·refine .inl ⟨(u:Int),?_,by omega⟩;simp[hu,h45]
  ·rw[hp];exact .inr rfl
def ErrV (w:World):Prop:=∃ ev,w.cell? ⟨5,0,none⟩=some ev∧(ev=.nilIface∨∃ te pe,ev=.iface te pe)
theorem ErrV.ext {w w':World}(h:ErrV w)(hb:Below w.heap.size w w'):ErrV w':=by
 obtain⟨ev,h1,h2⟩:=h;exact⟨ev,by rw[hb.cell (World.block_lt_of_cell? _ _ h1)];exact h1,h2⟩
def RetWn (l:List UInt8)(w:World)(e:Ending)(w':World):Prop:=∃ v b,e=.returned (.tuple #[.int .i64 v,.bool (numeralB l),.bool b])∧v≤9223372036854775807∧(numeralB l=false→b=false)∧Below w.heap.size w w'
theorem RetWn.mk {l:List UInt8}{w w':World}{v:Int}{b c:Bool}(hb:numeralB l=c)(hv:v≤9223372036854775807)(h:c=false→b=false)(hw:Below w.heap.size w w'):RetWn l w (.returned (.tuple #[.int .i64 v,.bool c,.bool b])) w':=
 ⟨v,b,by rw[hb],hv,fun h2=>h (by rw[← hb];exact h2),hw⟩
set_option maxHeartbeats 8000000 in
theorem wnumber_any (s:ByteArray)(w:World)(he:ErrV w)(hs:s.data.toList.length≤2147483648):Calls Tryz.prog 159 #[.string s] w (RetWn s.data.toList w):=by
 obtain⟨l,hl⟩:∃ l,l=s.data.toList:=⟨_,rfl⟩
 have hlen:l.length=s.size:=by rw[hl];rfl
 have hgb:∀ j (h:j < s.size) (h':j < l.length),l[j]=s[j]:=by subst hl;exact get_byte s
 have hs9:s.size≤2147483648:=by rw[← hl] at hs;omega
 have htr:=@Any.strings_Trim_laid _ _ Tryz.lays160 (by kernel_rfl) s ⟨#[48,49,50,51,52,53,54,55,56,57]⟩ w (by omega) (by decide) (ascii_of_all (by decide));rw[← hl,show (⟨#[48,49,50,51,52,53,54,55,56,57]⟩:ByteArray).data.toList=tenL from rfl] at htr;obtain⟨tr,htr2⟩:∃ tr,tr=Lib.trimS l tenL:=⟨_,rfl⟩
 rw[← htr2] at htr;have hte:=trim_ten l;rw[← htr2] at hte;rw[← hl];have HTR:=hid htr;have HL:=hid hl;have HLN:=hid hlen;have HGB:=hid hgb;clear htr htr2 hs hgb hlen;by_cases h0:0 < s.size
 ·have hln:1≤l.length:=by rw[HLN.out];exact h0
  have d1:s.toList.isEmpty=false:=by
   rw[ByteArray.toList_eq,← hl];cases l with
   | nil=>simp at hln
   | cons a r=>rfl
  have e0:l.headD 0=s[0]:=by
   rw[← HGB.out 0 h0 (by omega)];cases l with
   | nil=>simp at hln
   | cons a r=>rfl
  obtain⟨c0,hc0⟩:∃ c0:Int,c0=(s[0]'h0).toNat:=⟨_,rfl⟩
  have hcc:((s[0]'h0).toNat:Int)=c0:=hc0.symm;have HHD:Hid (l.headD 0=48 ↔ c0=48):=hid (by
   rw[e0,hc0];constructor
   ·intro e;rw[e];rfl
   ·intro e;exact UInt8.toNat_inj.1 (by have:(48:UInt8).toNat=48:=rfl;omega))
  clear e0 hc0 hl;by_cases h1:1 < s.size
  ·by_cases h48:c0=48
   ·have k48:(c0 == 48)=true:=by rw[h48];rfl
    have HN:Hid (numeralB l=false):=hid (by unfold numeralB;rw[decide_eq_true (show 1 < l.length by rw[HLN.out];exact h1),HHD.out.2 h48];simp);clear h48 hte hln;go_enter Tryz.func159,Tryz.ntmps159;go_wp2;go_ret3;exact RetWn.mk HN.out (by decide) (fun _=>rfl) (Below.refl _ _)
   ·have k48:(c0 == 48)=false:=beq_false_of_ne h48;have HX:Hid ((decide (1 < l.length) && (l.headD 0 == 48))=false):=hid (by rw[show (l.headD 0 == 48)=false from beq_false_of_ne (fun e=>h48 (HHD.out.1 e)),Bool.and_false]);clear h48;have HNX:Hid (numeralB l=l.all isDig):=hid (by unfold numeralB;rw[decide_eq_true (show 1≤l.length by omega),HX.out];simp);have HTE:Hid (tr.isEmpty=l.all isDig):=hid hte;cases hal:l.all isDig with
    | false=>
     have HN:Hid (numeralB l=false):=hid (by rw[HNX.out,hal]);have t1:tr.isEmpty=false:=by rw[HTE.out,hal]
     clear hal hte;go_enter Tryz.func159,Tryz.ntmps159;go_wp2_with (go_at_call 198;refine HTR.out.mono ?_;intro e w1 hx;obtain⟨rfl,hb1⟩:=hx;refine Hid.out ?_);refine hid ?_;have HB1:=hid hb1;clear hb1 HTR;go_wp2;go_ret3;exact RetWn.mk HN.out (by decide) (fun _=>rfl) HB1.out
    | true=>
     have HN:Hid (numeralB l=true):=hid (by rw[HNX.out,hal]);have t1:tr.isEmpty=true:=by rw[HTE.out,hal]
     clear hal hte;go_enter Tryz.func159,Tryz.ntmps159;go_wp2_with (go_at_call 198;refine HTR.out.mono ?_;intro e w1 hx;obtain⟨rfl,hb1⟩:=hx;refine Hid.out ?_);refine hid ?_;have HB1:=hid hb1;clear hb1 HTR;go_upto_region 3 with fail
     clear t1;rcases atoi_numeral HN.out with ⟨v,hv,hv2⟩ | hv
     ·have HC2:=hid ((Tryz.strconv_Atoi_ok s (by omega) v (by rw[← HL.out];exact hv) w1).mono (fun e w' h=>(⟨h.1,by rcases h.2 with e2 | ⟨t,e2⟩;(rw[e2];exact Below.refl _ _);(rw[e2];exact below_bytes56 _ _ _)⟩:_∧Below w1.heap.size w1 w')));have HV:=hid hv2;clear hv hv2;go_wp2_with (go_at_call 103;refine HC2.out.mono ?_;intro e w2 hx;obtain⟨rfl,hb2⟩:=hx;refine Hid.out ?_);refine hid ?_;have HB2:=hid (HB1.out.trans (hb2.mono HB1.out.size));clear hb2 HC2;go_upto_region 4 with fail
      go_quiet (fail)
      go_wp2;go_ret3;exact RetWn.mk HN.out HV.out (fun h=>by cases h) (below_drewN HB2.out _)
     ·obtain⟨ev,hev1,hev2⟩:=he.ext HB1.out;have HC2:=hid ((Tryz.strconv_Atoi_range s (by omega) (by rw[← HL.out];exact hv) ev w1 hev1 hev2).mono (fun e w' h=>(by obtain⟨N,h1,-,-,h2⟩:=h;exact⟨N,h1,h2⟩:∃ N,_∧Below w1.heap.size w1 w')));have HS:Hid (Lib.atoiSat s.data.toList≤9223372036854775807):=hid (by unfold Lib.atoiSat;split <;> decide);clear hv hev1 hev2;go_wp2_with (go_at_call 103;refine HC2.out.mono ?_;intro e w2 hx;obtain⟨N,rfl,hb2⟩:=hx;refine Hid.out ?_);refine hid ?_;have HB2:=hid (HB1.out.trans (hb2.mono HB1.out.size));clear hb2 HC2;go_upto_region 4 with fail
      go_quiet (fail)
      go_wp2;go_ret3;exact RetWn.mk HN.out HS.out (fun h=>by cases h) (below_drewN HB2.out _)
  ·have HX:Hid ((decide (1 < l.length) && (l.headD 0 == 48))=false):=hid (by rw[decide_eq_false (show ¬ 1 < l.length by rw[HLN.out];exact h1)];rfl);have d12:decide (1 < (s.size:Int))=false:=decide_eq_false (by omega);have HNX:Hid (numeralB l=l.all isDig):=hid (by unfold numeralB;rw[decide_eq_true (show 1≤l.length by omega),HX.out];simp);have HTE:Hid (tr.isEmpty=l.all isDig):=hid hte;cases hal:l.all isDig with
   | false=>
    have HN:Hid (numeralB l=false):=hid (by rw[HNX.out,hal]);have t1:tr.isEmpty=false:=by rw[HTE.out,hal]
    clear hal hte;go_enter Tryz.func159,Tryz.ntmps159;go_wp2_with (go_at_call 198;refine HTR.out.mono ?_;intro e w1 hx;obtain⟨rfl,hb1⟩:=hx;refine Hid.out ?_);refine hid ?_;have HB1:=hid hb1;clear hb1 HTR;go_wp2;go_ret3;exact RetWn.mk HN.out (by decide) (fun _=>rfl) HB1.out
   | true=>
    have HN:Hid (numeralB l=true):=hid (by rw[HNX.out,hal]);have t1:tr.isEmpty=true:=by rw[HTE.out,hal]
    clear hal hte;go_enter Tryz.func159,Tryz.ntmps159;go_wp2_with (go_at_call 198;refine HTR.out.mono ?_;intro e w1 hx;obtain⟨rfl,hb1⟩:=hx;refine Hid.out ?_);refine hid ?_;have HB1:=hid hb1;clear hb1 HTR;go_upto_region 3 with fail
    clear t1;rcases atoi_numeral HN.out with ⟨v,hv,hv2⟩ | hv
    ·have HC2:=hid ((Tryz.strconv_Atoi_ok s (by omega) v (by rw[← HL.out];exact hv) w1).mono (fun e w' h=>(⟨h.1,by rcases h.2 with e2 | ⟨t,e2⟩;(rw[e2];exact Below.refl _ _);(rw[e2];exact below_bytes56 _ _ _)⟩:_∧Below w1.heap.size w1 w')));have HV:=hid hv2;clear hv hv2;go_wp2_with (go_at_call 103;refine HC2.out.mono ?_;intro e w2 hx;obtain⟨rfl,hb2⟩:=hx;refine Hid.out ?_);refine hid ?_;have HB2:=hid (HB1.out.trans (hb2.mono HB1.out.size));clear hb2 HC2;go_upto_region 4 with fail
     go_quiet (fail)
     go_wp2;go_ret3;exact RetWn.mk HN.out HV.out (fun h=>by cases h) (below_drewN HB2.out _)
    ·obtain⟨ev,hev1,hev2⟩:=he.ext HB1.out;have HC2:=hid ((Tryz.strconv_Atoi_range s (by omega) (by rw[← HL.out];exact hv) ev w1 hev1 hev2).mono (fun e w' h=>(by obtain⟨N,h1,-,-,h2⟩:=h;exact⟨N,h1,h2⟩:∃ N,_∧Below w1.heap.size w1 w')));have HS:Hid (Lib.atoiSat s.data.toList≤9223372036854775807):=hid (by unfold Lib.atoiSat;split <;> decide);clear hv hev1 hev2;go_wp2_with (go_at_call 103;refine HC2.out.mono ?_;intro e w2 hx;obtain⟨N,rfl,hb2⟩:=hx;refine Hid.out ?_);refine hid ?_;have HB2:=hid (HB1.out.trans (hb2.mono HB1.out.size));clear hb2 HC2;go_upto_region 4 with fail
     go_quiet (fail)
     go_wp2;go_ret3;exact RetWn.mk HN.out HS.out (fun h=>by cases h) (below_drewN HB2.out _)
 ·have hz:l=[]:=List.eq_nil_of_length_eq_zero (by rw[HLN.out];omega);have d1:s.toList.isEmpty=true:=by rw[ByteArray.toList_eq,← hl,hz];rfl
  have HN:Hid (numeralB l=false):=hid (by rw[hz];rfl);clear hz hl hte;go_enter Tryz.func159,Tryz.ntmps159;go_wp2;go_ret3;exact RetWn.mk HN.out (by decide) (fun _=>rfl) (Below.refl _ _)
def wolfF (l:List UInt8):Bool:=
 if Lib.hasPrefix l [87] then numeralB (Lib.trimPrefix l [87])
 else Lib.hasPrefix l [84] && (Lib.cut (Lib.trimPrefix l [84]) [47]).2.2 && numeralB (Lib.cut (Lib.trimPrefix l [84]) [47]).1 && numeralB (Lib.cut (Lib.trimPrefix l [84]) [47]).2.1
def RetWp (l:List UInt8)(w:World)(e:Ending)(w':World):Prop:=∃ (a b:Int)(c:Bool)(ev:Int),e=.returned (.tuple #[.int .i64 a,.int .i64 b,.bool c,.int .i64 ev])∧(ev=15 ↔ wolfF l=false)∧Below w.heap.size w w'
theorem RetWp.bad {l:List UInt8}{w w':World}{a b:Int}{c:Bool}(h:wolfF l=false)(hb:Below w.heap.size w w'):RetWp l w (.returned (.tuple #[.int .i64 a,.int .i64 b,.bool c,.int .i64 15])) w':=⟨a,b,c,15,rfl,⟨fun _=>h,fun _=>rfl⟩,hb⟩
theorem RetWp.good {l:List UInt8}{w w':World}{a b ev:Int}{c:Bool}(h:wolfF l=true)(he:ev≠15)(hb:Below w.heap.size w w'):RetWp l w (.returned (.tuple #[.int .i64 a,.int .i64 b,.bool c,.int .i64 ev])) w':=⟨a,b,c,ev,rfl,⟨fun h2=>absurd h2 he,fun h2=>by rw[h] at h2;cases h2⟩,hb⟩
theorem dtl {l:List UInt8}:(⟨l.toArray⟩:ByteArray).data.toList=l:=by simp
set_option maxHeartbeats 16000000 in
theorem wparse_any (l:List UInt8)(w:World)(hg:GCell w)(he:ErrV w)(hs:l.length≤2147483648):Calls Tryz.prog 122 #[.string ⟨l.toArray⟩] w (RetWp l w):=by
 obtain⟨isW,hW⟩:∃ b,b=Lib.hasPrefix l [87]:=⟨_,rfl⟩
 obtain⟨lw,hlw⟩:∃ x,x=Lib.trimPrefix l [87]:=⟨_,rfl⟩
 obtain⟨isT,hT⟩:∃ b,b=Lib.hasPrefix l [84]:=⟨_,rfl⟩
 obtain⟨lt,hlt⟩:∃ x,x=Lib.trimPrefix l [84]:=⟨_,rfl⟩
 obtain⟨la,hla⟩:∃ x,x=(Lib.cut lt [47]).1:=⟨_,rfl⟩
 obtain⟨lb,hlb⟩:∃ x,x=(Lib.cut lt [47]).2.1:=⟨_,rfl⟩
 obtain⟨two,htwo⟩:∃ x,x=(Lib.cut lt [47]).2.2:=⟨_,rfl⟩
 have HF:Hid (wolfF l=cond isW (numeralB lw) (isT && two && numeralB la && numeralB lb)):=hid (by unfold wolfF;rw[← hW,← hlw,← hT,← hlt,← hla,← hlb,← htwo];cases isW <;> rfl);have lw31:lw.length≤2147483648:=by rw[hlw];exact Nat.le_trans (trimPrefix_len9 _ _) hs
 have lt31:lt.length≤2147483648:=by rw[hlt];exact Nat.le_trans (trimPrefix_len9 _ _) hs
 have la31:la.length≤2147483648:=by rw[hla];exact Nat.le_trans (cut_len8 _ _).1 lt31
 have lb31:lb.length≤2147483648:=by rw[hlb];exact Nat.le_trans (cut_len8 _ _).2 lt31
 have hc1:=cutPre_any l [87] w;rw[← hW,← hlw] at hc1;have hc2:=fun W=>cutPre_any l [84] W;rw[← hT,← hlt] at hc2;have hc3:=fun W (h:GCell W)=>cut_any lt [47] W h (by omega);rw[← hla,← hlb,← htwo] at hc3;have HC1:=hid hc1;have HC2:=hid hc2;have HC3:=hid hc3;have HE:=hid he;have HG:=hid hg;have HB:Hid (Below w.heap.size w w):=hid (Below.refl _ _);clear hc1 hc2 hc3 he hg hW hlw hT hlt hla hlb htwo hs;go_enter Tryz.func122,Tryz.ntmps122;go_wp2_with (go_at_call 136;refine HC1.out.mono ?_;rintro e w0 ⟨rfl,rfl⟩;refine Hid.out ?_);refine hid ?_;clear HC1;cases isW with
 | true=>
  have HCALL:=hid ((wnumber_any (⟨lw.toArray⟩:ByteArray) w HE.out (by simpa using lw31)).mono (fun e w' h=>(by rw[dtl] at h;exact h:RetWn lw w e w')));go_wp2_with (go_at_call 159;refine HCALL.out.mono ?_;intro e w1 hx;obtain⟨v1,b1,rfl,hv1,hz1,hb1⟩:=hx;refine Hid.out ?_);refine hid ?_;clear HCALL;replace HB:=hid (HB.out.trans (hb1.mono HB.out.size));replace HE:=hid (HE.out.ext hb1);replace HG:=hid (HG.out.ext hb1);clear hb1;have HV1:=hid hv1;have HZ1:=hid hz1;clear hv1 hz1;obtain⟨n1,hn1⟩:∃ n,n=numeralB lw:=⟨_,rfl⟩
  rw[← hn1] at HZ1 ⊢;have HN1:=hid hn1;clear hn1;have HFT:Hid (wolfF l=n1):=hid (by rw[HF.out,HN1.out];rfl);cases n1 with
  | false=>
   go_wp2;(try simp only[Exit.inBlock,Exit.then]);refine bodyPost_ret (results_tmp4 rfl _ _ _) rfl ?_;exact RetWp.bad HFT.out HB.out
  | true=>
   cases b1 with
   | false=>
    go_wp2;(try simp only[Exit.inBlock,Exit.then]);refine bodyPost_ret (results_tmp4 rfl _ _ _) rfl ?_;exact RetWp.good HFT.out (by decide) HB.out
   | true=>
    by_cases h255:255 < v1
    ·have q1:decide (255 < v1)=true:=decide_eq_true h255;go_wp2;(try simp only[Exit.inBlock,Exit.then]);refine bodyPost_ret (results_tmp4 rfl _ _ _) rfl ?_;exact RetWp.good HFT.out (by decide) HB.out
    ·have q1:decide (255 < v1)=false:=decide_eq_false h255;clear h255;go_wp2;(try simp only[Exit.inBlock,Exit.then]);refine bodyPost_ret (results_tmp4 rfl _ _ _) rfl ?_;exact RetWp.good HFT.out (by decide) HB.out
 | false=>
  have HFF:Hid (wolfF l=(isT && two && numeralB la && numeralB lb)):=hid (by rw[HF.out];rfl);go_wp2_with (go_at_call 136;refine (HC2.out w).mono ?_;rintro e w0 ⟨rfl,rfl⟩;refine Hid.out ?_);refine hid ?_;clear HC2;have HCALL:=hid (HC3.out w HG.out);go_wp2_with (go_at_call 33;refine HCALL.out.mono ?_;intro e w1 hx;obtain⟨rfl,hb9⟩:=hx;refine Hid.out ?_);refine hid ?_;clear HCALL;replace HB:=hid (HB.out.trans (hb9.mono HB.out.size));replace HE:=hid (HE.out.ext hb9);replace HG:=hid (HG.out.ext hb9);clear hb9;go_upto_region 11 with fail
  have HCALL:=hid ((wnumber_any (⟨la.toArray⟩:ByteArray) w1 HE.out (by simpa using la31)).mono (fun e w' h=>(by rw[dtl] at h;exact h:RetWn la w1 e w')));go_wp2_with (go_at_call 159;refine HCALL.out.mono ?_;intro e w2 hx;obtain⟨v1,b1,rfl,hv1,hz1,hb1⟩:=hx;refine Hid.out ?_);refine hid ?_;clear HCALL;replace HB:=hid (HB.out.trans (hb1.mono HB.out.size));replace HE:=hid (HE.out.ext hb1);replace HG:=hid (HG.out.ext hb1);clear hb1;have HV1:=hid hv1;have HZ1:=hid hz1;clear hv1 hz1;obtain⟨n1,hn1⟩:∃ n,n=numeralB la:=⟨_,rfl⟩
  rw[← hn1] at HZ1 ⊢;have HN1:=hid hn1;clear hn1;go_upto_region 12 with fail
  have HCALL:=hid ((wnumber_any (⟨lb.toArray⟩:ByteArray) w2 HE.out (by simpa using lb31)).mono (fun e w' h=>(by rw[dtl] at h;exact h:RetWn lb w2 e w')));go_wp2_with (go_at_call 159;refine HCALL.out.mono ?_;intro e w3 hx;obtain⟨v2,b2,rfl,hv2,hz2,hb2⟩:=hx;refine Hid.out ?_);refine hid ?_;clear HCALL;replace HB:=hid (HB.out.trans (hb2.mono HB.out.size));replace HE:=hid (HE.out.ext hb2);replace HG:=hid (HG.out.ext hb2);clear hb2;have HV2:=hid hv2;have HZ2:=hid hz2;clear hv2 hz2;obtain⟨n2,hn2⟩:∃ n,n=numeralB lb:=⟨_,rfl⟩
  rw[← hn2] at HZ2 ⊢;have HN2:=hid hn2;clear hn2;have HFT:Hid (wolfF l=(isT && two && n1 && n2)):=hid (by rw[HFF.out,HN1.out,HN2.out]);go_upto_region 13 with fail
  cases isT with
  | false=>
   have HX:Hid (wolfF l=false):=hid (by rw[HFT.out];rfl);go_wp2;(try simp only[Exit.inBlock,Exit.then]);refine bodyPost_ret (results_tmp4 rfl _ _ _) rfl ?_;exact RetWp.bad HX.out HB.out
  | true=>
   cases two with
   | false=>
    have HX:Hid (wolfF l=false):=hid (by rw[HFT.out];rfl);go_wp2;(try simp only[Exit.inBlock,Exit.then]);refine bodyPost_ret (results_tmp4 rfl _ _ _) rfl ?_;exact RetWp.bad HX.out HB.out
   | true=>
    cases n1 with
    | false=>
     have HX:Hid (wolfF l=false):=hid (by rw[HFT.out];rfl);go_wp2;(try simp only[Exit.inBlock,Exit.then]);refine bodyPost_ret (results_tmp4 rfl _ _ _) rfl ?_;exact RetWp.bad HX.out HB.out
    | true=>
     cases n2 with
     | false=>
      have HX:Hid (wolfF l=false):=hid (by rw[HFT.out];rfl);go_wp2;(try simp only[Exit.inBlock,Exit.then]);refine bodyPost_ret (results_tmp4 rfl _ _ _) rfl ?_;exact RetWp.bad HX.out HB.out
     | true=>
      have HX:Hid (wolfF l=true):=hid (by rw[HFT.out];rfl);cases b1 with
      | false=>
       go_wp2;(try simp only[Exit.inBlock,Exit.then]);refine bodyPost_ret (results_tmp4 rfl _ _ _) rfl ?_;exact RetWp.good HX.out (by decide) HB.out
      | true=>
       cases b2 with
       | false=>
        go_wp2;(try simp only[Exit.inBlock,Exit.then]);refine bodyPost_ret (results_tmp4 rfl _ _ _) rfl ?_;exact RetWp.good HX.out (by decide) HB.out
       | true=>
        obtain⟨dr,hdr⟩:∃ dr,dr=digsT v2 v1:=⟨_,rfl⟩
        have hdc:=digits_any v2 v1 w3 HV1.out;rw[← hdr] at hdc;have HDC:=hid hdc;clear hdc hdr;go_wp2_with (go_at_call 160;refine HDC.out.mono ?_;intro e w4 hx;obtain⟨dA,dc,rfl,-,hb4⟩:=hx;refine Hid.out ?_);refine hid ?_;clear HDC;replace HB:=hid (HB.out.trans (hb4.mono HB.out.size));replace HE:=hid (HE.out.ext hb4);replace HG:=hid (HG.out.ext hb4);clear hb4

        obtain⟨dl,de⟩:=dr;by_cases hde:de=0
        ·subst hde;go_wp2;(try simp only[Exit.inBlock,Exit.then]);refine bodyPost_ret (results_tmp4 rfl _ _ _) rfl ?_;exact RetWp.good HX.out (by decide) HB.out
        ·have q1:(de != 0)=true:=bne_iff_ne.2 hde;clear hde;go_wp2;(try simp only[Exit.inBlock,Exit.then]);refine bodyPost_ret (results_tmp4 rfl _ _ _) rfl ?_;exact RetWp.good HX.out (by decide) HB.out
set_option maxHeartbeats 4000000 in
theorem rnumeral_any (s:ByteArray)(w:World)(hs:s.data.toList.length≤2147483648) :
  Calls Tryz.prog 175 #[.string s] w fun e w'=>e=.returned (.bool (numeralB s.data.toList))∧w'=w:=by
 obtain⟨l,hl⟩:∃ l,l=s.data.toList:=⟨_,rfl⟩
 have hlen:l.length=s.size:=by rw[hl];rfl
 have hgb:∀ j (h:j < s.size) (h':j < l.length),l[j]=s[j]:=by subst hl;exact get_byte s
 have hs9:s.size≤2147483648:=by rw[← hl] at hs;omega
 rw[← hl];obtain⟨r,hr⟩:∃ r,r=numeralB l:=⟨_,rfl⟩
 rw[← hr];have HR:Hid (r=(l.all isDig && decide (1≤l.length) && !(decide (1 < l.length) && (l.headD 0 == 48)))):=hid hr;have HLN:=hid hlen;have HGB:=hid hgb;clear hs hgb hlen hr;by_cases h0:0 < s.size
 ·have hln:1≤l.length:=by rw[HLN.out];exact h0
  have d0:((s.size:Int) == 0)=false:=beq_false_of_ne (by omega);have e0:l.headD 0=s[0]:=by
   rw[← HGB.out 0 h0 (by omega)];cases l with
   | nil=>simp at hln
   | cons a r=>rfl
  obtain⟨c0,hc0⟩:∃ c0:Int,c0=(s[0]'h0).toNat:=⟨_,rfl⟩
  have hcc:((s[0]'h0).toNat:Int)=c0:=hc0.symm;have HHD:Hid (l.headD 0=48 ↔ c0=48):=hid (by
   rw[e0,hc0];constructor
   ·intro e;rw[e];rfl
   ·intro e;exact UInt8.toNat_inj.1 (by have:(48:UInt8).toNat=48:=rfl;omega))
  have HLB:Hid (1≤l.length):=hid hln;clear e0 hc0 hl hln;by_cases h1:1 < s.size
  ·by_cases h48:c0=48
   ·have k48:(c0 == 48)=true:=by rw[h48];rfl
    have HN:Hid (r=false):=hid (by rw[HR.out,decide_eq_true (show 1 < l.length by rw[HLN.out];exact h1),HHD.out.2 h48];simp);clear h48;go_enter Tryz.func175,Tryz.ntmps175;go_wp2;go_ret;exact⟨ret_b56 HN.out.symm,rfl⟩
   ·have k48:(c0 == 48)=false:=beq_false_of_ne h48;have HX:Hid ((decide (1 < l.length) && (l.headD 0 == 48))=false):=hid (by rw[show (l.headD 0 == 48)=false from beq_false_of_ne (fun e=>h48 (HHD.out.1 e)),Bool.and_false]);clear h48;have HRB:Hid (r=l.all isDig):=hid (by rw[HR.out,decide_eq_true HLB.out,HX.out];simp);go_enter Tryz.func175,Tryz.ntmps175;go_wp2
    go_loop [3] (fun iv=>∃ k:Nat,k≤s.size∧iv=.int .i64 k∧Hid ((l.take k).all isDig=true)) (fun iv=>s.size - (intOf iv).toNat)
    case atStart=>exact⟨0,Nat.zero_le _,rfl,hid rfl⟩
    case round=>
     obtain⟨k,hk,rfl,HT⟩:=hrel;by_cases hlt:k < s.size
     ·have hll:k < l.length:=by rw[HLN.out];exact hlt
      have hq:=HGB.out k hlt hll;have HBADD:=hid (fun h=>all_bad56 (l:=l) hll h);have HGOOD:=hid (fun h=>all_snoc56 (l:=l) hll HT.out h);obtain⟨c,hcc2⟩:∃ c:Int,c=(s[k]'hlt).toNat:=⟨_,rfl⟩
      have hc1:((s[k]'hlt).toNat:Int)=c:=hcc2.symm;have HDC:Hid (isDig l[k]=(decide (48≤c) && decide (c≤57))):=hid (by rw[hq,hcc2];rfl);have HLT:=hid hlt;have hwk:wrap64 ((k:Int)+1)=(k:Int)+1:=by unfold wrap64;omega
      clear hcc2 hq;rcases Int.lt_or_le c 48 with x | x
      ·have HN:Hid (r=false):=hid (by rw[HRB.out,HBADD.out (by rw[HDC.out,decide_eq_false (by omega)];rfl)]);clear hll HGOOD HBADD HDC;go_wp2;go_ret;exact⟨ret_b56 HN.out.symm,rfl⟩
      ·rcases Int.lt_or_le 57 c with y | y
       ·have HN:Hid (r=false):=hid (by rw[HRB.out,HBADD.out (by rw[HDC.out,decide_eq_false (show ¬ c≤57 by omega),Bool.and_false])]);clear hll HGOOD HBADD HDC;go_wp2;go_ret;exact⟨ret_b56 HN.out.symm,rfl⟩
       ·have HG2:=hid (HGOOD.out (by rw[HDC.out,decide_eq_true x,decide_eq_true y];rfl));clear hll HGOOD HBADD HDC;go_wp2
        go_round
        case rel=>exact⟨k+1,HLT.out,(by first | rfl | (rw[hwk];rfl)),HG2⟩
        case measure=>(try rw[hwk]);exact meas_step5b HLT.out
     ·obtain rfl:k=s.size:=by omega
      have htk:l.take s.size=l:=by rw[← HLN.out,List.take_length]
      have HA:Hid (r=true):=hid (by rw[HRB.out];have:=HT.out;rw[htk] at this;exact this);clear htk HT;go_wp2;go_ret;exact⟨ret_b56 HA.out.symm,rfl⟩
  ·have HX:Hid ((decide (1 < l.length) && (l.headD 0 == 48))=false):=hid (by rw[decide_eq_false (show ¬ 1 < l.length by rw[HLN.out];exact h1)];rfl);have d12:decide (1 < (s.size:Int))=false:=decide_eq_false (by omega);have HRB:Hid (r=l.all isDig):=hid (by rw[HR.out,decide_eq_true HLB.out,HX.out];simp);go_enter Tryz.func175,Tryz.ntmps175;go_wp2
   go_loop [3] (fun iv=>∃ k:Nat,k≤s.size∧iv=.int .i64 k∧Hid ((l.take k).all isDig=true)) (fun iv=>s.size - (intOf iv).toNat)
   case atStart=>exact⟨0,Nat.zero_le _,rfl,hid rfl⟩
   case round=>
    obtain⟨k,hk,rfl,HT⟩:=hrel;by_cases hlt:k < s.size
    ·have hll:k < l.length:=by rw[HLN.out];exact hlt
     have hq:=HGB.out k hlt hll;have HBADD:=hid (fun h=>all_bad56 (l:=l) hll h);have HGOOD:=hid (fun h=>all_snoc56 (l:=l) hll HT.out h);obtain⟨c,hcc2⟩:∃ c:Int,c=(s[k]'hlt).toNat:=⟨_,rfl⟩
     have hc1:((s[k]'hlt).toNat:Int)=c:=hcc2.symm;have HDC:Hid (isDig l[k]=(decide (48≤c) && decide (c≤57))):=hid (by rw[hq,hcc2];rfl);have HLT:=hid hlt;have hwk:wrap64 ((k:Int)+1)=(k:Int)+1:=by unfold wrap64;omega
     clear hcc2 hq;rcases Int.lt_or_le c 48 with x | x
     ·have HN:Hid (r=false):=hid (by rw[HRB.out,HBADD.out (by rw[HDC.out,decide_eq_false (by omega)];rfl)]);clear hll HGOOD HBADD HDC;go_wp2;go_ret;exact⟨ret_b56 HN.out.symm,rfl⟩
     ·rcases Int.lt_or_le 57 c with y | y
      ·have HN:Hid (r=false):=hid (by rw[HRB.out,HBADD.out (by rw[HDC.out,decide_eq_false (show ¬ c≤57 by omega),Bool.and_false])]);clear hll HGOOD HBADD HDC;go_wp2;go_ret;exact⟨ret_b56 HN.out.symm,rfl⟩
      ·have HG2:=hid (HGOOD.out (by rw[HDC.out,decide_eq_true x,decide_eq_true y];rfl));clear hll HGOOD HBADD HDC;go_wp2
       go_round
       case rel=>exact⟨k+1,HLT.out,(by first | rfl | (rw[hwk];rfl)),HG2⟩
       case measure=>(try rw[hwk]);exact meas_step5b HLT.out
    ·obtain rfl:k=s.size:=by omega
     have htk:l.take s.size=l:=by rw[← HLN.out,List.take_length]
     have HA:Hid (r=true):=hid (by rw[HRB.out];have:=HT.out;rw[htk] at this;exact this);clear htk HT;go_wp2;go_ret;exact⟨ret_b56 HA.out.symm,rfl⟩
 ·have hz:l=[]:=List.eq_nil_of_length_eq_zero (by rw[HLN.out];omega);have d0:((s.size:Int) == 0)=true:=by rw[show s.size=0 by omega];rfl
  have HN:Hid (r=false):=hid (by rw[HR.out,hz];rfl);clear hz hl;go_enter Tryz.func175,Tryz.ntmps175;go_wp2;go_ret;exact⟨ret_b56 HN.out.symm,rfl⟩
def RetWv (w:World)(e:Ending)(w':World):Prop:=∃ (v:Int)(b:Bool),e=.returned (.tuple #[.int .i64 v,.bool b])∧(0≤v∧v≤9223372036854775807)∧w'=w
theorem RetWv.mk {w:World}{v:Int}{b:Bool}(h:0≤v∧v≤9223372036854775807):RetWv w (.returned (.tuple #[.int .i64 v,.bool b])) w:=⟨v,b,rfl,h,rfl⟩
set_option maxHeartbeats 4000000 in
theorem rwvalue_any (s:ByteArray)(w:World)(hs:s.data.toList.length≤2147483648)(hd:s.data.toList.all isDig=true) :
  Calls Tryz.prog 176 #[.string s] w (RetWv w):=by
 obtain⟨l,hl⟩:∃ l,l=s.data.toList:=⟨_,rfl⟩
 have hlen:l.length=s.size:=by rw[hl];rfl
 have hgb:∀ j (h:j < s.size) (h':j < l.length),l[j]=s[j]:=by subst hl;exact get_byte s
 have hs9:s.size≤2147483648:=by rw[← hl] at hs;omega
 rw[← hl] at hd;have HLN:=hid hlen;have HGB:=hid hgb;have HD:=hid hd;clear hs hgb hlen hl hd;go_enter Tryz.func176,Tryz.ntmps176;go_wp2
 go_loop [4,5] (fun nv iv=>∃ (k:Nat) (n:Int),k≤s.size∧nv=.int .i64 n∧iv=.int .i64 k∧0≤n∧n≤9223372036854775807) (fun _ iv=>s.size - (intOf iv).toNat)
 case atStart=>exact⟨0,0,Nat.zero_le _,rfl,rfl,by decide,by decide⟩
 case round=>
  obtain⟨k,n,hk,rfl,rfl,hn1,hn2⟩:=hrel;by_cases hlt:k < s.size
  ·have hll:k < l.length:=by rw[HLN.out];exact hlt
   have hq:=HGB.out k hlt hll;have hdg:=List.all_eq_true.1 HD.out _ (List.getElem_mem hll);obtain⟨c,hcc2⟩:∃ c:Int,c=(s[k]'hlt).toNat:=⟨_,rfl⟩
   have hc1:((s[k]'hlt).toNat:Int)=c:=hcc2.symm;obtain⟨x,y⟩:48≤c∧c≤57:=by
    rw[hq] at hdg;unfold isDig at hdg;rw[hcc2];simpa using hdg
   have HLT:=hid hlt;have hwk:wrap64 ((k:Int)+1)=(k:Int)+1:=by unfold wrap64;omega
   clear hcc2 hq hdg hll;by_cases hov:(9223372036854775807 - (c - 48)) / 10 < n
   ·have q1:decide ((9223372036854775807 - (c - 48)) / 10 < n)=true:=decide_eq_true hov;go_wp2;go_ret2;exact RetWv.mk (by decide)
   ·have q1:decide ((9223372036854775807 - (c - 48)) / 10 < n)=false:=decide_eq_false hov;have hb1:10*n+(c - 48)≤9223372036854775807:=by omega
    have hb2:0≤10*n+(c - 48):=by omega
    have hw1:wrap64 (10*n)=10*n:=by unfold wrap64;omega
    have hw2:wrap64 (10*n+(c - 48))=10*n+(c - 48):=by unfold wrap64;omega
    have HBB:=hid (And.intro hb2 hb1);go_wp2
    go_round
    case rel=>exact⟨k+1,10*n+(c - 48),HLT.out,(by first | rfl | (rw[hw1,hw2]) | (rw[hw2])),(by first | rfl | (rw[hwk];rfl)),HBB.out.1,HBB.out.2⟩
    case measure=>(try rw[hwk]);exact meas_step5b HLT.out
  ·obtain rfl:k=s.size:=by omega
   go_wp2;go_ret2;exact RetWv.mk ⟨hn1,hn2⟩
end Go.Proofs.YtcfelnhmifkelaaGreatDoor
namespace Go.Proofs.YtcfelnhmifkelaaGreatDoor
open Go.RowKit
set_option maxRecDepth 100000
set_option linter.unusedVariables false
set_option linter.unusedSimpArgs false
def atTo (l:List UInt8):Nat→Int
 | 0=>-1
 | m+1=>if l.getD m 0=47 then (m:Int) else atTo l m
theorem atTo_le (l:List UInt8):∀ m,-1≤atTo l m∧atTo l m < m
 | 0=>by unfold atTo;omega
 | m+1=>by
  have:=atTo_le l m;unfold atTo
  split <;> omega
theorem atTo_none {l:List UInt8}(h:(47:UInt8) ∉ l):∀ m,m≤l.length→atTo l m = -1
 | 0,_=>rfl
 | m+1,hm=>by
  unfold atTo;rw[if_neg,atTo_none h m (by omega)];intro e;rw[List.getD_eq_getElem?_getD,List.getElem?_eq_getElem (by omega)] at e;have e2:l[m]=47:=e;exact h (e2 ▸ List.getElem_mem _)
theorem atTo_split {p q:List UInt8}(h:(47:UInt8) ∉ q):∀ m,p.length < m→m≤(p ++ 47 :: q).length→atTo (p ++ 47 :: q) m=(p.length:Int)
 | 0,h0,_=>by omega
 | m+1,hm,hm2=>by
  unfold atTo;by_cases he:m=p.length
  ·rw[if_pos]
   ·rw[he]
   ·rw[he,List.getD_eq_getElem?_getD,List.getElem?_append_right (Nat.le_refl _)];simp
  ·have hlt:p.length < m:=by omega
   rw[if_neg]
   ·exact atTo_split h m hlt (by omega)
   ·intro e;rw[List.getD_eq_getElem?_getD,List.getElem?_append_right (by omega),show m - p.length=(m - p.length - 1)+1 by omega,List.getElem?_cons_succ] at e;have hl:m - p.length - 1 < q.length:=by rw[List.length_append,List.length_cons] at hm2;omega
    rw[List.getElem?_eq_getElem hl] at e;have e2:q[m - p.length - 1]=47:=e;exact h (e2 ▸ List.getElem_mem _)
theorem last_slash:∀ {v:List UInt8},(47:UInt8) ∈ v→∃ p q,v=p ++ 47 :: q∧(47:UInt8) ∉ q
 | a :: r,h=>by
  by_cases hr:(47:UInt8) ∈ r
  ·obtain⟨p,q,e,hq⟩:=last_slash hr;exact⟨a :: p,q,by rw[e];rfl,hq⟩
  ·rcases List.mem_cons.1 h with rfl | h
   ·exact⟨[],r,rfl,hr⟩
   ·exact absurd h hr
theorem first_slash:∀ {v:List UInt8},(47:UInt8) ∈ v→∃ p q,v=p ++ 47 :: q∧(47:UInt8) ∉ p
 | a :: r,h=>by
  by_cases ha:a=47
  ·exact⟨[],r,by rw[ha];rfl,by simp⟩
  ·rcases List.mem_cons.1 h with h | h
   ·exact absurd h.symm ha
   ·obtain⟨p,q,e,hq⟩:=first_slash h;refine⟨a :: p,q,by rw[e];rfl,fun hm=>?_⟩;rcases List.mem_cons.1 hm with h | h
    ·exact ha h.symm
    ·exact hq h
theorem indexByte_first:∀ {p q:List UInt8},(47:UInt8) ∉ p→Lib.indexByte (p ++ 47 :: q) 47=(p.length:Int)
 | [],q,_=>by simp[Lib.indexByte]
 | a :: p,q,h=>by
  have ha:(a == 47)=false:=beq_false_of_ne (fun e=>h (e ▸ List.mem_cons_self));have ih:=indexByte_first (q:=q) (fun hm=>h (List.mem_cons_of_mem a hm));rw[List.cons_append,Lib.indexByte,ha,ih];have:(((p.length:Int)) == -1)=false:=beq_false_of_ne (by omega);rw[this]
  simp
theorem indexByte_miss:∀ {p:List UInt8},(47:UInt8) ∉ p→Lib.indexByte p 47 = -1
 | [],_=>rfl
 | a :: p,h=>by
  have ha:(a == 47)=false:=beq_false_of_ne (fun e=>h (e ▸ List.mem_cons_self));rw[Lib.indexByte,ha,indexByte_miss (fun hm=>h (List.mem_cons_of_mem a hm))];rfl
theorem cut_first {p q:List UInt8}(h:(47:UInt8) ∉ p):Lib.cut (p ++ 47 :: q) [47]=(p,q,true):=by
 unfold Lib.cut;rw[Lib.index_one,indexByte_first h,if_pos (Int.natCast_nonneg _),Int.toNat_natCast];have h1:(p ++ 47 :: q).take p.length=p:=List.take_left;have h2:(p ++ 47 :: q).drop (p.length + [(47:UInt8)].length)=q:=by rw[List.drop_append];simp
 rw[h1,h2]
theorem cut_none {p:List UInt8}(h:(47:UInt8) ∉ p):(Lib.cut p [47]).2.2=false:=by
 unfold Lib.cut;rw[Lib.index_one,indexByte_miss h,if_neg (by decide)]
theorem numeral_slash {l:List UInt8}(h:(47:UInt8) ∈ l):numeralB l=false:=by
 unfold numeralB;have:l.all isDig=false:=List.all_eq_false.2 ⟨47,h,by decide⟩;rw[this];rfl
def goodR (l:List UInt8):Bool:=decide (1≤atTo l l.length) && (l.headD 0 == 84) && numeralB ((l.take (atTo l l.length).toNat).drop 1) && numeralB (l.drop ((atTo l l.length).toNat+1))
theorem hasP_cons (c a:UInt8)(l:List UInt8):Lib.hasPrefix (a :: l) [c]=(c == a):=by unfold Lib.hasPrefix;simp[List.isPrefixOf]
theorem goodR_eq {l:List UInt8}(hW:Lib.hasPrefix l [87]=false):wolfF l=goodR l:=by
 unfold wolfF;rw[hW];simp only[Bool.false_eq_true,if_false];cases l with
 | nil=>rfl
 | cons a t=>
  by_cases ha:a=84
  ·subst ha;have e1:Lib.hasPrefix (84 :: t) [84]=true:=rfl;have e2:Lib.trimPrefix (84 :: t) [84]=t:=rfl;rw[e1,e2,Bool.true_and];unfold goodR;rw[show ((84 :: t:List UInt8).headD 0 == 84)=true from rfl,Bool.and_true];by_cases hs:(47:UInt8) ∈ t
   ·obtain⟨u,v,e,hu⟩:=first_slash hs;rw[e,cut_first hu];by_cases hv:(47:UInt8) ∈ v
    ·obtain⟨p,q,e3,hq⟩:=last_slash hv;have hat:=atTo_split (p:=84 :: (u ++ 47 :: p)) (q:=q) hq;have el:(84 :: (u ++ 47 :: v):List UInt8)=(84 :: (u ++ 47 :: p)) ++ 47 :: q:=by rw[e3];simp
     rw[el,hat _ (by rw[List.length_append,List.length_cons];simp) (Nat.le_refl _),Int.toNat_natCast];have h1:(((84 :: (u ++ 47 :: p)) ++ 47 :: q:List UInt8).take (84 :: (u ++ 47 :: p):List UInt8).length).drop 1=u ++ 47 :: p:=by rw[List.take_left];rfl
     rw[h1,numeral_slash (l:=u ++ 47 :: p) (by simp),numeral_slash hv]
     simp
    ·have hat:=atTo_split (p:=84 :: u) (q:=v) hv;have el:(84 :: (u ++ 47 :: v):List UInt8)=(84 :: u) ++ 47 :: v:=rfl;rw[el,hat _ (by rw[List.length_append,List.length_cons];simp) (Nat.le_refl _),Int.toNat_natCast];have h1:(((84 :: u) ++ 47 :: v:List UInt8).take (84 :: u:List UInt8).length).drop 1=u:=by rw[List.take_left];rfl
     have h2:((84 :: u) ++ 47 :: v:List UInt8).drop ((84 :: u:List UInt8).length+1)=v:=by rw[List.drop_append];simp
     rw[h1,h2,decide_eq_true (by rw[List.length_cons];omega)]
   ·have hn:(47:UInt8) ∉ (84 :: t:List UInt8):=fun hm=>by
     rcases List.mem_cons.1 hm with h | h
     ·exact absurd h (by decide)
     ·exact hs h
    rw[cut_none hs,atTo_none hn _ (Nat.le_refl _)];rfl
  ·rw[hasP_cons,beq_false_of_ne (fun e=>ha e.symm)];unfold goodR;rw[show ((a :: t:List UInt8).headD 0 == 84)=false from beq_false_of_ne ha]
   simp
end Go.Proofs.YtcfelnhmifkelaaGreatDoor
