/-
  texts Place PermW: parts of the proof; conditions stand with each theorem.
-/
import Derived.Test.YtcmbdhopmncmnaaGreatDoorVG4
import Derived.DeepKeys5
import Derived.Laws.EntriesVeiled
namespace Go.Proofs.YtcmbdhopmncmnaaGreatDoor
open Lib(hid)
open Go.RowKit Go.Maps
set_option maxRecDepth 100000
set_option linter.unusedVariables false
set_option linter.unusedSimpArgs false
structure PlJ (V:World)(g:Nat)(tv:Value)(gr:Nat)(zb:Nat)(zo:Nat)(zn:Nat)(zc:Nat)(i:Nat)(ee:Int)(ss:Nat)(ok:Bool)(fv:Bool)(bb:List Int)(b0 b1 b2 b3 b4 b5 b6 b7 b8 b9 b10 b11 b12 b13:Bool)(v67 v68 v69 v70 v71 v72 v73 v74 v75 v66 v76 v77 v15 v16:Value)(w:World):Prop where
 h0:b0=true→v67=.pointer (some ⟨g,0,none⟩)
 h1:b1=true→v68=tv
 h2:b2=true→v69=.pointer (some ⟨gr,0,none⟩)
 h3:b3=true→v70=.slice (some ⟨zb,zo,none⟩) zn zc
 h4:b4=true→v71=.int .i64 (i:Int)
 h5:b5=true→v72=.pointer (some ⟨zb,zo+i,none⟩)
 h6:b6=true→v73=.int .i64 ee
 h7:b7=true→v74=.int .i64 (ss:Int)
 h8:b8=true→v75=.tuple #[.bool ok,.bool fv]
 h9:b9=true→v66=.tuple #[.bool ok,.bool fv]
 h10:b10=true→v76=.bool ok
 h11:b11=true→v77=.bool fv
 h12:b12=true→v15=.bool ok
 h13:b13=true→v16=.bool fv
 wa:b8=false→w=V.drew
 wd:b8=true→BindB w g bb∧Kept (fun x=>x=g) V.drew w
 o3:b3=true→b2=true
 o5:b5=true→b3=true∧b4=true
 o6:b6=true→b5=true
 o8:b8=true→b0=true∧b1=true∧b6=true∧b7=true
 o9:b9=true→b8=true
 o10:b10=true→b9=true
 o11:b11=true→b9=true
 o12:b12=true→b10=true
 o13:b13=true→b11=true∧b12=true
theorem ifC {a b:Int}(h:a=b):(a == b)=true:=by simp[h]
set_option maxHeartbeats 16000000 in
theorem place_any (W0:World)(gin gb gr gF gX gc gp gu gt g ub:Nat)(iA:Option Addr)(ic:Nat)(inn:List Int)(zA:Option Addr)(zc:Nat)(ins:List Int)(out c:Int)(hA vA rA:Option Addr)(hc vc rc:Nat)(t:TabH)(hd:PlD W0.heap.size gin gb gr gF gX gc gp gu gt g ub)(hst:∀ s ∈ inn,0≤s∧s < 8)(hz:Ints W0 zA ins)(hi:Ints W0 iA inn)(hV:Vrs W0 vA t.vs)(h40:t.vs.length≤40)(hl:ins.length=inn.length)(h25:inn.length≤25)(he:∀ e ∈ ins,ElOk t.vs.length e)(ho:ElOk t.vs.length out) :
  ∀ (L:Nat) (bs:List Int) (used:List Bool) (r:Int × Bool) (w:World),L≤inn.length→used.length=inn.length→NegOr bs→PlS W0 gin gb gr gF gX gc gp gu gt g ub iA ic inn zA zc ins out c hA vA rA hc vc rc t bs used r w→
  Calls Tryz.prog 113 #[.int .i64 ((inn.length - L:Nat):Int),.pointer (some ⟨gin,0,none⟩),.pointer (some ⟨gb,0,none⟩),.pointer (some ⟨gr,0,none⟩),.pointer (some ⟨gF,0,none⟩),.pointer (some ⟨gX,0,none⟩),.pointer (some ⟨gc,0,none⟩),.pointer (some ⟨gp,0,none⟩),.pointer (some ⟨gu,0,none⟩),.pointer (some ⟨gt,0,none⟩)] w fun e w'=>e=.returned (.tuple #[])∧PlS W0 gin gb gr gF gX gc gp gu gt g ub iA ic inn zA zc ins out c hA vA rA hc vc rc t bs used (placeP (t.vs.map Vh.zs) ins out inn c L bs used r) w'∧Kept (PlT gF gX g ub) w w':=by
 obtain⟨vars,hvars⟩:∃ v,v=t.vs.map Vh.zs:=⟨_,rfl⟩
 rw[← hvars];have HVS:=hid hvars;have HD:=hid hd;have HZ:=hid (And.intro hz (And.intro hi hl));have HE:=hid (And.intro he (And.intro ho (And.intro hV h40)));have HST:=hid hst;have H25:=hid h25;clear hd hz hi hV h40 he ho hst hvars;intro L;induction L with
 | zero=>
  intro bs used r w hL hu hn hP;have HP:=hid hP;have HCALL:=hid (out_any g zA ins.length zc bs out w hP.bd (fun h=>Nat.lt_of_lt_of_le (HE.out.2.1.1 h) HE.out.2.2.2) HE.out.2.1.2);obtain⟨n,hn'⟩:∃ n,n=outP bs out:=⟨_,rfl⟩
  have HPL:Hid (placeP vars ins out inn c 0 bs used r=better r n):=hid (by rw[hn'];rfl);rw[← hn'] at HCALL;rw[Nat.sub_zero];obtain⟨r1,r2⟩:=r;clear hL hu hn hn' hP hl;have y1:=HP.out.bi.cell_ 0 (.slice iA inn.length ic) rfl;have y2:=HP.out.bb.cell_ 0 (.pointer (some ⟨g,0,none⟩)) rfl;have y3:=HP.out.br.cell_ 0 (.slice zA ins.length zc) rfl;have y3b:=HP.out.br.cell_ 1 (.int .i64 out) rfl;have y6:=HP.out.bc.cell_ 0 (.int .i64 c) rfl;have y8:=HP.out.bu.cell_ 0 (.slice (some ⟨ub,0,none⟩) inn.length inn.length) rfl;go_enter Tryz.func113,Tryz.ntmps113;go_wp2_with (go_at_call 114;refine HCALL.out.mono ?_;rintro e w1 ⟨rfl,hb1⟩;refine Hid.out ?_);refine hid ?_;have HB1:=hid hb1;have HP1:=hid (HP.out.same HD.out hb1);clear y1 y2 y3 y3b y6 y8;clear hb1;have z4:=HP1.out.bf.cell_ 0 (.bool r2) rfl;have z5:=HP1.out.bx.cell_ 0 (.int .i64 r1) rfl;have f4:=HP1.out.bf.frozen 0;have f5:=HP1.out.bx.frozen 0;have HK1:Hid (Kept (PlT gF gX g ub) w w1):=hid (Kept.of_new _ HB1.out);have HP2:=hid (HP1.out.found HD.out n);have HK2:Hid (Kept (PlT gF gX g ub) w ((w1.setCell ⟨gX,0,none⟩ (.int .i64 n)).setCell ⟨gF,0,none⟩ (.bool true))):=hid ((HK1.out.setCell (p:=⟨gX,0,none⟩) (.inl (.inr (.inr (.inr rfl)))) _).setCell (p:=⟨gF,0,none⟩) (.inl (.inr (.inr (.inl rfl)))) _);have hne:=HD.out.df.2.2.2.2.2;cases r2 with
  | false=>
   have HF:Hid (better (r1,false) n=(n,true)):=hid rfl;go_wp2;(try simp only[Exit.inBlock,Exit.then]);refine bodyPost_ret (results_none rfl _ _ _) rfl ?_;exact⟨rfl,by rw[HPL.out,HF.out];exact HP2.out,HK2.out⟩
  | true=>
   by_cases hlt:n < r1
   ·have HF:Hid (better (r1,true) n=(n,true)):=hid (if_pos (.inr hlt));have d0:decide (n < r1)=true:=decide_eq_true hlt;go_wp2;(try simp only[Exit.inBlock,Exit.then]);refine bodyPost_ret (results_none rfl _ _ _) rfl ?_;exact⟨rfl,by rw[HPL.out,HF.out];exact HP2.out,HK2.out⟩
   ·have HF:Hid (better (r1,true) n=(r1,true)):=hid (if_neg (by rintro (h | h);cases h;exact hlt h));have d0:decide (n < r1)=false:=decide_eq_false hlt;go_wp2;(try simp only[Exit.inBlock,Exit.then]);refine bodyPost_ret (results_none rfl _ _ _) rfl ?_;exact⟨rfl,by rw[HPL.out,HF.out];exact HP1.out,HK1.out⟩
 | succ L ih=>
  intro bs used r w hL hu hn hP;have HP:=hid hP;have HU:=hid (And.intro hu hn);have HIH:=hid ih;obtain⟨i,hii⟩:∃ i,i=inn.length - (L+1):=⟨_,rfl⟩
  rw[← hii];have hil:i < inn.length:=by omega
  have hi1:inn.length - L=i+1:=by omega
  have HII:=hid (And.intro hii (And.intro hi1 hil));have hwi:wrap64 ((i:Int)+1)=((i+1:Nat):Int):=by unfold wrap64;omega
  have d0:((i:Int) == (inn.length:Int))=false:=by simp;omega
  clear hL hu hn ih hP hii hi1 hl;have y1:=HP.out.bi.cell_ 0 (.slice iA inn.length ic) rfl;have y2:=HP.out.bb.cell_ 0 (.pointer (some ⟨g,0,none⟩)) rfl;have y3:=HP.out.br.cell_ 0 (.slice zA ins.length zc) rfl;have y3b:=HP.out.br.cell_ 1 (.int .i64 out) rfl;have y6:=HP.out.bc.cell_ 0 (.int .i64 c) rfl;have y8:=HP.out.bu.cell_ 0 (.slice (some ⟨ub,0,none⟩) inn.length inn.length) rfl;by_cases hc:(i:Int)=c
  ·have d1:((i:Int) == c)=true:=ifC hc;have HPL:Hid (placeP vars ins out inn c (L+1) bs used r=placeP vars ins out inn c L bs used r):=hid (by rw[placeP,← HII.out.1,if_pos hc]);have HCALL:=hid (HIH.out bs used r w (by have:=HII.out;omega) HU.out.1 HU.out.2 HP.out);rw[HII.out.2.1] at HCALL;have y7:=HP.out.bp.cell_ 0 _ rfl;subst hc;go_enter Tryz.func113,Tryz.ntmps113;go_wp2_with (go_at_call 113;refine HCALL.out.mono ?_;rintro e w1 ⟨rfl,hp1,hk1⟩;refine Hid.out ?_);refine hid ?_;have HP1:=hid hp1;have HK1:=hid hk1;clear hp1 hk1 y7;clear y1 y2 y3 y3b y6 y8;go_wp2;(try simp only[Exit.inBlock,Exit.then]);refine bodyPost_ret (results_none rfl _ _ _) rfl ?_;exact⟨rfl,by rw[HPL.out];exact HP1.out,HK1.out⟩
  ·have d1:((i:Int) == c)=false:=beq_false_of_ne hc;obtain⟨e,hee⟩:∃ e,e=ins.getD i 0:=⟨_,rfl⟩
   have HPL:Hid (placeP vars ins out inn c (L+1) bs used r=(plTo vars ins out inn c L bs used e r inn.length).2):=hid (by
    rw[placeP_succ (by rw[← HII.out.1];exact hc),hee,HII.out.1])
   have HEE:=hid hee;clear hc hee;go_enter Tryz.func113,Tryz.ntmps113;go_wp2;clear y1 y2 y3 y3b y6 y8;go_loopw [12,41] (fun tv kv wr=>∃ k:Nat,k≤inn.length∧kv=.int .i64 k∧tv=.int .i64 ((mskL (plTo vars ins out inn c L bs used e r k).1:Nat):Int)∧Hid (PlS W0 gin gb gr gF gX gc gp gu gt g ub iA ic inn zA zc ins out c hA vA rA hc vc rc t bs used (plTo vars ins out inn c L bs used e r k).2 wr)∧Hid (Kept (PlT gF gX g ub) w wr)) (fun _ kv _=>inn.length - (intOf kv).toNat)
   case atStart=>exact⟨0,Nat.zero_le _,rfl,rfl,HP,hid (Kept.refl _ _)⟩
   case round=>
    obtain⟨k,hk,rfl,rfl,HPR,HKR⟩:=hrel;obtain⟨x,hx⟩:∃ x,x=plTo vars ins out inn c L bs used e r k:=⟨_,rfl⟩
    rw[← hx] at HPR ⊢;have HXX:=hid hx;by_cases hkl:k < inn.length
    ·have hwk:wrap64 ((k:Int)+1)=(k:Int)+1:=by have:=H25.out;unfold wrap64;omega
     have HWK:=hid hwk;have hmem:∀ s ∈ x.1,0≤s∧s < 8:=by rw[hx];exact plTo_mem HST.out k hk
     have hm256:=msk_lt hmem;have hrow:=HZ.out.2.1.ext HPR.out.low;obtain⟨ib,io,ei,-,hci⟩:=hrow.at_ hkl;have hsr:=HST.out inn[k] (List.getElem_mem hkl);have hg:inn.getD k 0=inn[k]:=by rw[List.getD_eq_getElem?_getD,List.getElem?_eq_getElem hkl];rfl
     obtain⟨s,hs⟩:∃ s:Nat,inn[k]=(s:Int):=⟨inn[k].toNat,by omega⟩
     have hs8:s < 8:=by omega
     rw[hs] at hci hg;have hbm:=msk_mem hmem s;have hsh:=shrP hm256 s;obtain⟨m,hm⟩:∃ m,m=mskL x.1:=⟨_,rfl⟩
     rw[← hm] at hm256 hbm hsh ⊢;have HM:=hid (And.intro hm (And.intro hm256 hs8));have HG:=hid hg;have HBM:=hid hbm;have HSH:=hid hsh;have HMEM:=hid hmem;subst ei;have HK:=hid hkl;clear hk hwk hx hmem hm256 hrow hsr hs hs8 hbm hsh hm hg;have y1:=HPR.out.bi.cell_ 0 (.slice (some ⟨ib,io,none⟩) inn.length ic) rfl;have y2:=HPR.out.bb.cell_ 0 (.pointer (some ⟨g,0,none⟩)) rfl;have y3:=HPR.out.br.cell_ 0 (.slice zA ins.length zc) rfl;have y3b:=HPR.out.br.cell_ 1 (.int .i64 out) rfl;have y6:=HPR.out.bc.cell_ 0 (.int .i64 c) rfl;have y8:=HPR.out.bu.cell_ 0 (.slice (some ⟨ub,0,none⟩) inn.length inn.length) rfl;obtain⟨y9,f9⟩:=HPR.out.us.cellk (k:=k) (by rw[HU.out.1];exact HK.out);by_cases hkc:(k:Int)=c
     ·have d2:((k:Int) == c)=true:=ifC hkc;have hx1:plTo vars ins out inn c L bs used e r (k+1)=x:=by rw[plTo_succ,← HXX.out];exact if_pos (.inl hkc)
      have HX1:=hid hx1;have HPN:Hid (PlS W0 gin gb gr gF gX gc gp gu gt g ub (some ⟨ib,io,none⟩) ic inn zA zc ins out c hA vA rA hc vc rc t bs used (plTo vars ins out inn c L bs used e r (k+1)).2 wr):=hid (by rw[HX1.out];exact HPR.out);have HKN:=HKR;clear hx1 hkc;go_wp2;go_roundw
      case rel=>exact⟨k+1,HK.out,(by first | rfl | (rw[HWK.out];rfl)),(by first | rfl | (rw[HX1.out];rfl) | (rw[HX1.out,← HM.out.1];done)),HPN,HKN⟩
      case measure=>(try rw[HWK.out]);exact meas_step HK.out
     ·have d2:((k:Int) == c)=false:=beq_false_of_ne hkc;cases hub:used.getD k false with
      | true=>
       rw[hub] at y9;have hx1:plTo vars ins out inn c L bs used e r (k+1)=x:=by rw[plTo_succ,← HXX.out];exact if_pos (.inr (.inl hub))
       have HX1:=hid hx1;have HPN:Hid (PlS W0 gin gb gr gF gX gc gp gu gt g ub (some ⟨ib,io,none⟩) ic inn zA zc ins out c hA vA rA hc vc rc t bs used (plTo vars ins out inn c L bs used e r (k+1)).2 wr):=hid (by rw[HX1.out];exact HPR.out);have HKN:=HKR;clear hx1 hkc;go_wp2;go_roundw
       case rel=>exact⟨k+1,HK.out,(by first | rfl | (rw[HWK.out];rfl)),(by first | rfl | (rw[HX1.out];rfl) | (rw[HX1.out,← HM.out.1];done)),HPN,HKN⟩
       case measure=>(try rw[HWK.out]);exact meas_step HK.out
      | false=>
       rw[hub] at y9;by_cases hin:(s:Int) ∈ x.1
       ·have hmin:min s 64=s:=by have:=HM.out.2.2;omega
        have d3:bits .and .i64 ((m:Int) / 2 ^ s) 1=1:=by rw[HSH.out,if_pos (HBM.out.2 hin)]
        have hx1:plTo vars ins out inn c L bs used e r (k+1)=x:=by rw[plTo_succ,← HXX.out];exact if_pos (.inr (.inr (by rw[HG.out];exact hin)))
        have HX1:=hid hx1;have HPN:Hid (PlS W0 gin gb gr gF gX gc gp gu gt g ub (some ⟨ib,io,none⟩) ic inn zA zc ins out c hA vA rA hc vc rc t bs used (plTo vars ins out inn c L bs used e r (k+1)).2 wr):=hid (by rw[HX1.out];exact HPR.out);have HKN:=HKR;clear hx1 hkc hin hub;go_wp2;go_roundw
        case rel=>exact⟨k+1,HK.out,(by first | rfl | (rw[HWK.out];rfl)),(by first | rfl | (rw[HX1.out];rfl) | (rw[HX1.out,← HM.out.1];done)),HPN,HKN⟩
        case measure=>(try rw[HWK.out]);exact meas_step HK.out
       ·have d3:bits .and .i64 ((m:Int) / 2 ^ s) 1=0:=by rw[HSH.out,if_neg (fun h=>hin (HBM.out.1 h))]
        have hor:=orP m HM.out.2.1 s HM.out.2.2;have hsw:wrap64 (2 ^ s)=2 ^ s:=wrapP s HM.out.2.2;have hsw1:wrap64 (1*2 ^ s)=2 ^ s:=by rw[Int.one_mul];exact hsw
        have hmin:min s 64=s:=by have:=HM.out.2.2;omega
        have hx1:plTo vars ins out inn c L bs used e r (k+1)=plStep vars ins out inn c L bs used e x k:=by rw[plTo_succ,← HXX.out]
        have hst:plStep vars ins out inn c L bs used e x k=((s:Int) :: x.1,if (acceptP vars bs e (s:Int)).1=true then placeP vars ins out inn c L (acceptP vars bs e (s:Int)).2.2 (used.set k true) x.2 else x.2):=by
         unfold plStep;rw[HG.out,if_neg (by rintro (h | h | h);exact hkc h;rw[hub] at h;cases h;exact hin h)]
        have HST1:=hid (hx1.trans hst);have HMS:Hid (mskL ((s:Int) :: x.1)=m ||| 2 ^ s):=hid (by rw[HM.out.1];rfl);have HUB:=hid hub;clear hx1 hst hin hub hkc;go_upto_region 12 with fail
        have hz0:=HZ.out.1.ext HPR.out.low;obtain⟨zb,zo,ez,-,hcz⟩:=hz0.at_ (k:=i) (by rw[HZ.out.2.2];exact HII.out.2.2);have hil2:i < ins.length:=by rw[HZ.out.2.2];exact HII.out.2.2
        have hge:e=ins[i]'hil2:=by rw[HEE.out,List.getD_eq_getElem?_getD,List.getElem?_eq_getElem hil2];rfl
        rw[← hge] at hcz;have hel:=HE.out.1 (ins[i]'hil2) (List.getElem_mem hil2);rw[← hge] at hel;have HEL:=hid hel;subst ez;have HCZ:=hid hcz;have HVW:Hid (Vrs wr vA t.vs):=hid (HE.out.2.2.1.ext HPR.out.low);have hcall:=fun (W:World) (hW:BindB W g bs) (hV2:Vrs W vA t.vs)=>accept_any g hA hc vA vc rA rc t bs e (s:Int) W hW hV2 HEL.out.1 HE.out.2.2.2 HEL.out.2;rw[← HVS.out] at hcall;unfold tabV at hcall;obtain⟨ok,hok⟩:∃ x,x=(acceptP vars bs e (s:Int)).1:=⟨_,rfl⟩
        obtain⟨fv,hfv⟩:∃ x,x=(acceptP vars bs e (s:Int)).2.1:=⟨_,rfl⟩
        obtain⟨b',hb'⟩:∃ x,x=(acceptP vars bs e (s:Int)).2.2:=⟨_,rfl⟩
        have hcs:(ok=false∧fv=false∧b'=bs)∨(ok=true∧fv=false∧b'=bs)∨(ok=true∧fv=true∧e < 0∧bs.getD (-1 - e).toNat 0 < 0∧b'=bs.set (-1 - e).toNat (s:Int)):=by
         rw[hok,hfv,hb'];rcases acceptP_cases vars bs e (s:Int) with h | h | ⟨h1,h2,h⟩
         ·rw[h];exact .inl ⟨rfl,rfl,rfl⟩
         ·rw[h];exact .inr (.inl ⟨rfl,rfl,rfl⟩)
         ·rw[h];exact .inr (.inr ⟨rfl,rfl,h1,Int.not_le.1 h2,rfl⟩)
        have HCS:=hid hcs;rw[← hok,← hb'] at HST1;rw[← hok,← hfv,← hb'] at hcall;have HCALL:=hid hcall;clear hz0 hge hel hok hfv hb' hcall hcs hcz d3 hor hsw hsw1 hmin f9;refine wp_region_J (by kernel_rfl) (fun listed act w'=>∃ b0 b1 b2 b3 b4 b5 b6 b7 b8 b9 b10 b11 b12 b13 v67 v68 v69 v70 v71 v72 v73 v74 v75 v66 v76 v77 v15 v16,listed=#[b0,b1,b2,b3,b4,b5,b6,b7,b8,b9,b10,b11,b12,b13]∧act=Act.mk #[.int .i64 ↑i,.pointer (some ⟨gin,0,none⟩),.pointer (some ⟨gb,0,none⟩),.pointer (some ⟨gr,0,none⟩),.pointer (some ⟨gF,0,none⟩),.pointer (some ⟨gX,0,none⟩),.pointer (some ⟨gc,0,none⟩),.pointer (some ⟨gp,0,none⟩),.pointer (some ⟨gu,0,none⟩),.pointer (some ⟨gt,0,none⟩),undef,undef,.int .i64 ↑(m ||| 2 ^ s),.int .i64 ↑k,.int .i64 ↑s,v15,v16,.int .i64 ↑i,.slice (some ⟨ib,io,none⟩) inn.length ic,.int .i64 ↑inn.length,.bool false,undef,undef,undef,undef,undef,undef,undef,undef,undef,undef,undef,.int .i64 ↑i,.int .i64 c,.bool false,undef,undef,undef,undef,.slice (some ⟨ib,io,none⟩) inn.length ic,.int .i64 ↑inn.length,.int .i64 ↑k,.bool true,.int .i64 ↑k,.pointer (some ⟨ib,io+k,none⟩),.int .i64 ↑s,.int .i64 ↑k,.int .i64 c,.bool false,.bool false,.slice (some ⟨ub,0,none⟩) inn.length inn.length,.int .i64 ↑k,.pointer (some ⟨ub,k,none⟩),.bool false,.bool false,.bool false,.int .i64 ↑m,.int .i64 ↑s,.int .i64 (↑m / 2 ^ s),.int .i64 0,.bool false,.bool false,.int .i64 ↑m,.int .i64 ↑s,.int .i64 (wrap64 (2 ^ s)),.int .i64 ↑(m ||| 2 ^ s),v66,v67,v68,v69,v70,v71,v72,v73,v74,v75,v76,v77,u78,u79,u80,u81,u82,u83,u84,u85,u86,u87,u88,u89,u90,u91,u92,u93,u94,u95,u96,u97,u98,u99] []∧PlJ wr (g) (.agg #[.int .i64 t.st,.int .i64 t.sym,.slice hA t.hood.length hc,.slice vA t.vs.length vc,.slice rA t.rs.length rc]) (gr) (zb) (zo) (ins.length) (zc) (i) (e) (s) (ok) (fv) (b') b0 b1 b2 b3 b4 b5 b6 b7 b8 b9 b10 b11 b12 b13 v67 v68 v69 v70 v71 v72 v73 v74 v75 v66 v76 v77 v15 v16 w') ?_ ?_ ?_
        ·exact (e_8 (e_8 (e_8 (e_4 ⟨rfl,rfl,(by constructor;(case wa=>exact (fun _=>rfl));all_goals simp)⟩))))
        ·rintro i listed act w' hi ⟨b0,b1,b2,b3,b4,b5,b6,b7,b8,b9,b10,b11,b12,b13,v67,v68,v69,v70,v71,v72,v73,v74,v75,v66,v76,v77,v15,v16,rfl,rfl,H⟩;have hi16:i < 14:=by
          obtain⟨-,o,ho,-⟩:=mem_ready.1 hi;exact (Array.getElem?_eq_some_iff.1 ho).1
         obtain rfl | rfl | rfl | rfl | rfl | rfl | rfl | rfl | rfl | rfl | rfl | rfl | rfl | rfl:i=0∨i=1∨i=2∨i=3∨i=4∨i=5∨i=6∨i=7∨i=8∨i=9∨i=10∨i=11∨i=12∨i=13:=by omega
         all_goals simp[mem_ready,Region.binds] at hi
         ·have bcf:b8=false:=by
           cases hb:b8 with
           | false=>rfl
           | true=>exact absurd (H.o8 hb).1 (by simp[hi])
          obtain rfl:=H.wa bcf;have BCF:=hid bcf;clear bcf;have cc:(World.drew wr).cell? ⟨gb,0,none⟩=some (.pointer (some ⟨g,0,none⟩)):=HPR.out.bb.cell_ 0 _ rfl;refine wpOp_hidden rfl fun K hK=>?_;go_wp2;refine OnlyN.mk (hK.out _ _ (e_8 (e_8 (e_8 (e_4 ⟨rfl,rfl,{ H with h0:=fun _=>rfl,o8:=fun h=>⟨rfl,(H.o8 h).2.1,(H.o8 h).2.2.1,(H.o8 h).2.2.2⟩ }⟩)))))
         ·have bcf:b8=false:=by
           cases hb:b8 with
           | false=>rfl
           | true=>exact absurd (H.o8 hb).2.1 (by simp[hi])
          obtain rfl:=H.wa bcf;have BCF:=hid bcf;clear bcf;have hcc:Blk (World.drew wr) gt 26 #[.int .i64 t.st,.int .i64 t.sym,.slice hA t.hood.length hc,.slice vA t.vs.length vc,.slice rA t.rs.length rc]:=HPR.out.bt;have cc0:=hcc.cell_ 0 (.int .i64 t.st) rfl;have cc1:=hcc.cell_ 1 (.int .i64 t.sym) rfl;have cc2:=hcc.cell_ 2 (.slice hA t.hood.length hc) rfl;have cc3:=hcc.cell_ 3 (.slice vA t.vs.length vc) rfl;have cc4:=hcc.cell_ 4 (.slice rA t.rs.length rc) rfl;clear hcc;refine wpOp_hidden rfl fun K hK=>?_;go_wp2;refine OnlyN.mk (hK.out _ _ (e_8 (e_8 (e_8 (e_4 ⟨rfl,rfl,{ H with h1:=fun _=>rfl,o8:=fun h=>⟨(H.o8 h).1,rfl,(H.o8 h).2.2.1,(H.o8 h).2.2.2⟩ }⟩)))))
         ·refine wpOp_hidden rfl fun K hK=>?_;go_wp2;refine OnlyN.mk (hK.out _ _ (e_8 (e_8 (e_8 (e_4 ⟨rfl,rfl,{ H with h2:=fun _=>rfl,o3:=fun h=>rfl }⟩)))))
         ·obtain rfl:=H.h2 (by simp[hi]);have bcf:b8=false:=by
           cases hb:b8 with
           | false=>rfl
           | true=>exact absurd (H.o5 (H.o6 (H.o8 hb).2.2.1)).1 (by simp[hi])
          obtain rfl:=H.wa bcf;have BCF:=hid bcf;clear bcf;have cc:(World.drew wr).cell? ⟨gr,0,none⟩=some (.slice (some ⟨zb,zo,none⟩) ins.length zc):=HPR.out.br.cell_ 0 _ rfl;refine wpOp_hidden rfl fun K hK=>?_;go_wp2;refine OnlyN.mk (hK.out _ _ (e_8 (e_8 (e_8 (e_4 ⟨rfl,rfl,{ H with h3:=fun _=>rfl,o3:=fun _=>(by simp[hi]),o5:=fun h=>⟨rfl,(H.o5 h).2⟩ }⟩)))))
         ·refine wpOp_hidden rfl fun K hK=>?_;go_wp2;refine OnlyN.mk (hK.out _ _ (e_8 (e_8 (e_8 (e_4 ⟨rfl,rfl,{ H with h4:=fun _=>rfl,o5:=fun h=>⟨(H.o5 h).1,rfl⟩ }⟩)))))
         ·obtain rfl:=H.h3 (by simp[hi]);obtain rfl:=H.h4 (by simp[hi]);refine wpOp_hidden rfl fun K hK=>?_;go_wp2;refine OnlyN.mk (hK.out _ _ (e_8 (e_8 (e_8 (e_4 ⟨rfl,rfl,{ H with h5:=fun _=>rfl,o5:=fun _=>(by simp[hi]),o6:=fun h=>rfl }⟩)))))
         ·obtain rfl:=H.h5 (by simp[hi]);have bcf:b8=false:=by
           cases hb:b8 with
           | false=>rfl
           | true=>exact absurd (H.o8 hb).2.2.1 (by simp[hi])
          obtain rfl:=H.wa bcf;have BCF:=hid bcf;clear bcf;have cc:(World.drew wr).cell? ⟨zb,zo+i,none⟩=some (.int .i64 e):=HCZ.out;refine wpOp_hidden rfl fun K hK=>?_;go_wp2;refine OnlyN.mk (hK.out _ _ (e_8 (e_8 (e_8 (e_4 ⟨rfl,rfl,{ H with h6:=fun _=>rfl,o6:=fun _=>(by simp[hi]),o8:=fun h=>⟨(H.o8 h).1,(H.o8 h).2.1,rfl,(H.o8 h).2.2.2⟩ }⟩)))))
         ·refine wpOp_hidden rfl fun K hK=>?_;go_wp2;refine OnlyN.mk (hK.out _ _ (e_8 (e_8 (e_8 (e_4 ⟨rfl,rfl,{ H with h7:=fun _=>rfl,o8:=fun h=>⟨(H.o8 h).1,(H.o8 h).2.1,(H.o8 h).2.2.1,rfl⟩ }⟩)))))
         ·obtain rfl:=H.h0 (by simp[hi]);obtain rfl:=H.h1 (by simp[hi]);obtain rfl:=H.h6 (by simp[hi]);obtain rfl:=H.h7 (by simp[hi]);obtain rfl:=H.wa (by simp[hi]);refine wpOp_hidden rfl fun K hK=>?_;have hB7:BindB (World.drew wr) g bs:=HPR.out.bd.ext (Below.refl _ wr).drew;have hcall7:=HCALL.out (World.drew wr) hB7 (HVW.out.ext (Below.refl _ wr).drew);have HC7:=hid hcall7;clear hcall7 hB7;go_wp2_with (go_at_call 112;refine HC7.out.mono ?_;rintro en w9 ⟨rfl,hb9,hk9⟩;refine Hid.out ?_);refine hid ?_;have HB9:=hid hb9;have HK9:=hid hk9;clear hb9 hk9 HC7;go_wp2;refine OnlyN.mk (hK.out _ _ (e_8 (e_8 (e_8 (e_4 ⟨rfl,rfl,{ H with h8:=fun _=>rfl,wa:=fun h=>(by cases h),wd:=fun _=>⟨HB9.out,HK9.out⟩,o8:=fun _=>(by simp[hi]),o9:=fun h=>rfl }⟩)))))
         ·obtain rfl:=H.h8 (by simp[hi]);refine wpOp_hidden rfl fun K hK=>?_;go_wp2;refine OnlyN.mk (hK.out _ _ (e_8 (e_8 (e_8 (e_4 ⟨rfl,rfl,{ H with h9:=fun _=>rfl,o9:=fun _=>(by simp[hi]),o10:=fun h=>rfl,o11:=fun h=>rfl }⟩)))))
         ·obtain rfl:=H.h9 (by simp[hi]);refine wpOp_hidden rfl fun K hK=>?_;go_wp2;refine OnlyN.mk (hK.out _ _ (e_8 (e_8 (e_8 (e_4 ⟨rfl,rfl,{ H with h10:=fun _=>rfl,o10:=fun _=>(by simp[hi]),o12:=fun h=>rfl }⟩)))))
         ·obtain rfl:=H.h9 (by simp[hi]);refine wpOp_hidden rfl fun K hK=>?_;go_wp2;refine OnlyN.mk (hK.out _ _ (e_8 (e_8 (e_8 (e_4 ⟨rfl,rfl,{ H with h11:=fun _=>rfl,o11:=fun _=>(by simp[hi]),o13:=fun h=>⟨rfl,(H.o13 h).2⟩ }⟩)))))
         ·obtain rfl:=H.h10 (by simp[hi]);refine wpOp_hidden rfl fun K hK=>?_;go_wp2;refine OnlyN.mk (hK.out _ _ (e_8 (e_8 (e_8 (e_4 ⟨rfl,rfl,{ H with h12:=fun _=>rfl,o12:=fun _=>(by simp[hi]),o13:=fun h=>⟨(H.o13 h).1,rfl⟩ }⟩)))))
         ·obtain rfl:=H.h11 (by simp[hi]);obtain rfl:=H.h12 (by simp[hi]);refine wpOp_hidden rfl fun K hK=>?_;go_wp2;refine OnlyN.mk (hK.out _ _ (e_8 (e_8 (e_8 (e_4 ⟨rfl,rfl,{ H with h13:=fun _=>rfl,o13:=fun _=>(by simp[hi]) }⟩)))))
        ·rintro listed act w' hr ⟨b0,b1,b2,b3,b4,b5,b6,b7,b8,b9,b10,b11,b12,b13,v67,v68,v69,v70,v71,v72,v73,v74,v75,v66,v76,v77,v15,v16,rfl,rfl,H⟩;have hn:=List.eq_nil_iff_forall_not_mem.1 hr;have r0:=hn 0;simp[mem_ready,Region.binds] at r0;subst r0;have r1:=hn 1;simp[mem_ready,Region.binds] at r1;subst r1;have r2:=hn 2;simp[mem_ready,Region.binds] at r2;subst r2;have r3:=hn 3;simp[mem_ready,Region.binds] at r3;subst r3;have r4:=hn 4;simp[mem_ready,Region.binds] at r4;subst r4;have r5:=hn 5;simp[mem_ready,Region.binds] at r5;subst r5;have r6:=hn 6;simp[mem_ready,Region.binds] at r6;subst r6;have r7:=hn 7;simp[mem_ready,Region.binds] at r7;subst r7;have r8:=hn 8;simp[mem_ready,Region.binds] at r8;subst r8;have r9:=hn 9;simp[mem_ready,Region.binds] at r9;subst r9;have r10:=hn 10;simp[mem_ready,Region.binds] at r10;subst r10;have r11:=hn 11;simp[mem_ready,Region.binds] at r11;subst r11;have r12:=hn 12;simp[mem_ready,Region.binds] at r12;subst r12;have r13:=hn 13;simp[mem_ready,Region.binds] at r13;subst r13;try dsimp only
         obtain⟨hb9,hk9⟩:=H.wd rfl;obtain rfl:=H.h12 rfl;obtain rfl:=H.h13 rfl;obtain⟨w6,rfl⟩:∃ w6:World,w6=w':=⟨_,rfl⟩
         have HPA:Hid (PlS W0 gin gb gr gF gX gc gp gu gt g ub (some ⟨ib,io,none⟩) ic inn (some ⟨zb,zo,none⟩) zc ins out c hA vA rA hc vc rc t b' used x.2 w6):=hid ((HPR.out.same HD.out (Below.refl _ wr).drew).bind HD.out hk9 hb9);have HKA:Hid (Kept (PlT gF gX g ub) w w6):=hid (HKR.out.drew.trans (hk9.mono (fun x _ e=>.inl e)));clear H hr hn hb9 hk9 y1 y2 y3 y3b y6 y8 y9;cases ok with
         | false=>
          obtain⟨hff,hbb⟩:fv=false∧b'=bs:=by
           rcases HCS.out with h | h | h
           ·exact h.2
           ·cases h.1
           ·cases h.1
          subst hff;rw[hbb] at HPA;rw[if_neg (by decide)] at HST1;clear hbb;have HPN:Hid (PlS W0 gin gb gr gF gX gc gp gu gt g ub (some ⟨ib,io,none⟩) ic inn (some ⟨zb,zo,none⟩) zc ins out c hA vA rA hc vc rc t bs used (plTo vars ins out inn c L bs used e r (k+1)).2 w6):=hid (by rw[HST1.out];exact HPA.out);have HKN:=HKA;go_wp2;go_roundw
          case rel=>exact⟨k+1,HK.out,(by first | rfl | (rw[HWK.out];rfl)),(by first | (rw[HST1.out,HMS.out];done) | (rw[HST1.out,HMS.out];rfl)),HPN,HKN⟩
          case measure=>(try rw[HWK.out]);exact meas_step HK.out
         | true=>
          have hnb:NegOr b'∧b'.length=40:=by
           have hl0:=HPR.out.bd.1;rcases HCS.out with h | h | h
           ·cases h.1
           ·rw[h.2.2];exact⟨HU.out.2,hl0⟩
           ·rw[h.2.2.2.2];exact⟨HU.out.2.set (Int.natCast_nonneg s),by rw[List.length_set];exact hl0⟩
          have HNB:=hid hnb;clear hnb;rw[if_pos rfl] at HST1;have y1:=HPA.out.bi.cell_ 0 (.slice (some ⟨ib,io,none⟩) inn.length ic) rfl;have y2:=HPA.out.bb.cell_ 0 (.pointer (some ⟨g,0,none⟩)) rfl;have y3:=HPA.out.br.cell_ 0 (.slice (some ⟨zb,zo,none⟩) ins.length zc) rfl;have y3b:=HPA.out.br.cell_ 1 (.int .i64 out) rfl;have y6:=HPA.out.bc.cell_ 0 (.int .i64 c) rfl;have y8:=HPA.out.bu.cell_ 0 (.slice (some ⟨ub,0,none⟩) inn.length inn.length) rfl;obtain⟨y9,f9⟩:=HPA.out.us.cellk (k:=k) (by rw[HU.out.1];exact HK.out);have HPM:=hid (HPA.out.mark HD.out k true);have HKM:Hid (Kept (PlT gF gX g ub) w (w6.setCell ⟨ub,k,none⟩ (.bool true))):=hid (HKA.out.setCell (p:=⟨ub,k,none⟩) (.inl (.inr (.inl rfl))) _);have hcall:=HIH.out b' (used.set k true) x.2 _ (Nat.le_of_lt (by have:=HII.out;omega)) (by rw[List.length_set];exact HU.out.1) HNB.out.1 HPM.out;rw[HII.out.2.1] at hcall;have HCALL2:=hid hcall;clear hcall;go_upto_region 15 with fail
          clear y1 y2 y3 y3b y6 y8;clear y9 f9;obtain⟨w7,hw7⟩:∃ W,W=w6.setCell ⟨ub,k,none⟩ (.bool true):=⟨_,rfl⟩
          rw[← hw7] at HPM HKM HCALL2 ⊢;clear hw7;have y7:=HPM.out.bp.cell_ 0 _ rfl;go_wp2_with (go_at_call 113;refine HCALL2.out.mono ?_;rintro e8 w8 ⟨rfl,hp8,hk8⟩;refine Hid.out ?_);refine hid ?_;have HP8:=hid hp8;have HK8:=hid (HKM.out.trans hk8);clear hp8 hk8 y7 HCALL2;obtain⟨r8,hr8⟩:∃ r8,r8=placeP vars ins out inn c L b' (used.set k true) x.2:=⟨_,rfl⟩
          rw[← hr8] at HP8 HST1;clear hr8;have y1:=HP8.out.bi.cell_ 0 (.slice (some ⟨ib,io,none⟩) inn.length ic) rfl;have y2:=HP8.out.bb.cell_ 0 (.pointer (some ⟨g,0,none⟩)) rfl;have y3:=HP8.out.br.cell_ 0 (.slice (some ⟨zb,zo,none⟩) ins.length zc) rfl;have y3b:=HP8.out.br.cell_ 1 (.int .i64 out) rfl;have y6:=HP8.out.bc.cell_ 0 (.int .i64 c) rfl;have y8:=HP8.out.bu.cell_ 0 (.slice (some ⟨ub,0,none⟩) inn.length inn.length) rfl;obtain⟨y9,f9⟩:=HP8.out.us.cellk (k:=k) (by rw[List.length_set,HU.out.1];exact HK.out);have hp9:=HP8.out.mark HD.out k false;rw[setB_back (by rw[HU.out.1];exact HK.out) HUB.out] at hp9;have HP9:=hid hp9;have HK9:Hid (Kept (PlT gF gX g ub) w (w8.setCell ⟨ub,k,none⟩ (.bool false))):=hid (HK8.out.setCell (p:=⟨ub,k,none⟩) (.inl (.inr (.inl rfl))) _);clear hp9;go_upto_region 17 with fail
          clear y1 y2 y3 y3b y6 y8;clear y9 f9;obtain⟨w9,hw9⟩:∃ W,W=w8.setCell ⟨ub,k,none⟩ (.bool false):=⟨_,rfl⟩
          rw[← hw9] at HP9 HK9 ⊢;clear hw9;cases fv with
          | false=>
           have hbb:b'=bs:=by
            rcases HCS.out with h | h | h
            ·exact h.2.2
            ·exact h.2.2
            ·cases h.2.1
           rw[hbb] at HP9;clear hbb;have HPN:Hid (PlS W0 gin gb gr gF gX gc gp gu gt g ub (some ⟨ib,io,none⟩) ic inn (some ⟨zb,zo,none⟩) zc ins out c hA vA rA hc vc rc t bs used (plTo vars ins out inn c L bs used e r (k+1)).2 w9):=hid (by rw[HST1.out];exact HP9.out);have HKN:=HK9;go_wp2;go_roundw
           case rel=>exact⟨k+1,HK.out,(by first | rfl | (rw[HWK.out];rfl)),(by first | (rw[HST1.out,HMS.out];done) | (rw[HST1.out,HMS.out];rfl)),HPN,HKN⟩
           case measure=>(try rw[HWK.out]);exact meas_step HK.out
          | true=>
           have hf:e < 0∧bs.getD (-1 - e).toNat 0 < 0∧b'=bs.set (-1 - e).toNat (s:Int):=by
            rcases HCS.out with h | h | h
            ·cases h.2.1
            ·cases h.2.1
            ·exact h.2.2
           obtain⟨v,hv⟩:∃ v:Nat,-1 - e=(v:Int):=⟨(-1 - e).toNat,by omega⟩
           have hv':(-1 - e).toNat=v:=by omega
           have hv40:v < 40:=by have:=HEL.out.1 hf.1;have:=HE.out.2.2.2;omega
           rw[hv'] at hf;have hwv:wrap64 (-1 - e)=(v:Int):=by unfold wrap64;omega
           have hp10:=HP9.out.back HD.out v (-1);rw[hf.2.2,set_back HU.out.2 HPR.out.bd.1 hv40 (Int.not_le.2 hf.2.1)] at hp10;have HP10:=hid hp10;have HK10:Hid (Kept (PlT gF gX g ub) w (w9.setCell ⟨g,v,none⟩ (.int .i64 (-1)))):=hid (HK9.out.setCell (p:=⟨g,v,none⟩) (.inl (.inl rfl)) _);have HV:=hid (And.intro hwv hv40);have q0:=HP9.out.bd.at_ hv40;have q1:=HP9.out.bd.2.frozen v;obtain⟨zq,hzq⟩:∃ z,z=b'.getD v 0:=⟨_,rfl⟩
           rw[← hzq] at q0;have hz9:=HZ.out.1.ext HP9.out.low;have hcz:w9.cell? ⟨zb,zo+i,none⟩=some (.int .i64 e):=by
            obtain⟨b9,o9,e9,-,h9⟩:=hz9.at_ (k:=i) (by rw[HZ.out.2.2];exact HII.out.2.2);injection e9 with e9
            injection e9 with e9 e8
            subst e9 e8;rw[h9,HEE.out,List.getD_eq_getElem?_getD,List.getElem?_eq_getElem (by rw[HZ.out.2.2];exact HII.out.2.2)];rfl
           have y1:=HP9.out.bi.cell_ 0 (.slice (some ⟨ib,io,none⟩) inn.length ic) rfl;have y2:=HP9.out.bb.cell_ 0 (.pointer (some ⟨g,0,none⟩)) rfl;have y3:=HP9.out.br.cell_ 0 (.slice (some ⟨zb,zo,none⟩) ins.length zc) rfl;have y3b:=HP9.out.br.cell_ 1 (.int .i64 out) rfl;have y6:=HP9.out.bc.cell_ 0 (.int .i64 c) rfl;have y8:=HP9.out.bu.cell_ 0 (.slice (some ⟨ub,0,none⟩) inn.length inn.length) rfl;clear hf hv hv' hp10 hzq hz9;go_upto_region 18 with fail
           have hwv:=HV.out.1;go_region
           have HP11:=hid (HP10.out.same HD.out (Below.refl _ (w9.setCell ⟨g,v,none⟩ (.int .i64 (-1)))).drew);have HK11:=hid HK10.out.drew;have HPN:Hid (PlS W0 gin gb gr gF gX gc gp gu gt g ub (some ⟨ib,io,none⟩) ic inn (some ⟨zb,zo,none⟩) zc ins out c hA vA rA hc vc rc t bs used (plTo vars ins out inn c L bs used e r (k+1)).2 (w9.setCell ⟨g,v,none⟩ (.int .i64 (-1))).drew):=hid (by rw[HST1.out];exact HP11.out);have HKN:=HK11;go_wp2;go_roundw
           case rel=>exact⟨k+1,HK.out,(by first | rfl | (rw[HWK.out];rfl)),(by first | (rw[HST1.out,HMS.out];done) | (rw[HST1.out,HMS.out];rfl)),HPN,HKN⟩
           case measure=>(try rw[HWK.out]);exact meas_step HK.out

    ·obtain rfl:k=inn.length:=Nat.le_antisymm hk (Nat.le_of_not_lt hkl);have HRES:Hid (x.2=placeP vars ins out inn c (L+1) bs used r):=hid (by rw[HPL.out,HXX.out]);clear hk hkl hx;go_wp2;(try simp only[Exit.inBlock,Exit.then]);refine bodyPost_end (results_none rfl _ _ _) rfl ?_;exact⟨rfl,by rw[← HRES.out];exact HPR.out,HKR.out⟩
theorem run_loadVar_one {P:Program}{w:World}{ty:TypeId}{d:TypeDesc}{a:Addr}{v:Value}(hu:P.underlying ty=some d)(hd:(match d with | .struct _ | .array _ _=>true | _=>false)=false)(hc:w.cell? a=some v) :
  (loadVar ty a).run P w=.ok v w:=by
 have hagg:(isAgg ty).run P w=.ok false w:=by
  unfold isAgg;rw[Sem.run_bind,run_underlying hu w];cases d <;> simp_all
 simp[loadVar,Sem.run_bind,hagg,hc,Result.andThen]
theorem results_cc {P:Program}{fn:Func}{p u:Tmp}{tp tu:TypeId}{dp du:TypeDesc}{a b:Addr}{va vb:Value}{w:World}(h:fn.results=#[.cell p tp,.cell u tu])(tmps:Array Value)
  (hp:tmps.getD p undef=.pointer (some a)) (hq:tmps.getD u undef=.pointer (some b)) (hup:P.underlying tp=some dp) (hdp:(match dp with | .struct _ | .array _ _=>true | _=>false)=false) (huq:P.underlying tu=some du) (hdq:(match du with | .struct _ | .array _ _=>true | _=>false)=false)
  (ha:w.cell? a=some va) (hb:w.cell? b=some vb):(results fn tmps).run P w=.ok (.tuple #[va,vb]) w:=by
 have hp':tmps[p]?.getD undef=.pointer (some a):=by simpa using hp
 have hq':tmps[u]?.getD undef=.pointer (some b):=by simpa using hq
 simp[results,h,hp',hq',asAddr,run_loadVar_one hup hdp ha,run_loadVar_one huq hdq hb,Sem.run_bind,Result.andThen]
theorem NegOr.accept {vars:List (List Int)}{bs:List Int}{e s:Int}(h:NegOr bs)(hs:0≤s):NegOr (acceptP vars bs e s).2.2:=by
 rcases acceptP_cases vars bs e s with h1 | h1 | ⟨-,-,h1⟩
 ·rw[h1];exact h
 ·rw[h1];exact h
 ·rw[h1];exact h.set hs
theorem mv {w w':World}{g:Nat}{ty:TypeId}{cs:Array Value}(h:Blk w g ty cs)(hb:Below w.heap.size w w'):Blk w' g ty cs:=h.below hb h.lt
theorem sizeN (w:World)(o:Obj):(w.alloc o).heap.size=w.heap.size+1:=by simp
structure Pm5 (W0:World)(gt gr gin gX gF:Nat)(iA:Option Addr)(ic:Nat)(inn:List Int)(zA:Option Addr)(zc:Nat)(ins:List Int)(out:Int)(hA vA rA:Option Addr)(hc vc rc:Nat)(t:TabH)(w:World):Prop where
 low:Below W0.heap.size W0 w
 bt:Blk w gt 26 #[.int .i64 t.st,.int .i64 t.sym,.slice hA t.hood.length hc,.slice vA t.vs.length vc,.slice rA t.rs.length rc]
 br:Blk w gr 48 #[.slice zA ins.length zc,.int .i64 out]
 bi:Blk w gin 30 #[.slice iA inn.length ic]
 bx:Blk w gX 3 #[.int .i64 0]
 bf:Blk w gF 4 #[.bool false]
structure PmS (W0:World)(gt gr gin gX gF:Nat)(iA:Option Addr)(ic:Nat)(inn:List Int)(zA:Option Addr)(zc:Nat)(ins:List Int)(out:Int)(hA vA rA:Option Addr)(hc vc rc:Nat)(t:TabH)(gc gb g:Nat)(c:Int)(bs:List Int)(w:World):Prop where
 p5:Pm5 W0 gt gr gin gX gF iA ic inn zA zc ins out hA vA rA hc vc rc t w
 bc:Blk w gc 3 #[.int .i64 c]
 bb:Blk w gb 120 #[.pointer (some ⟨g,0,none⟩)]
 bd:BindB w g bs
section
variable {W0 : World} {gt gr gin gX gF : Nat} {iA : Option Addr} {ic : Nat} {inn : List Int} {zA : Option Addr} {zc : Nat} {ins : List Int} {out : Int} {hA vA rA : Option Addr} {hc vc rc : Nat} {t : TabH} {gc gb g : Nat} {c : Int} {bs bs' : List Int} {w w' : World}
theorem Pm5.ext (h:Pm5 W0 gt gr gin gX gF iA ic inn zA zc ins out hA vA rA hc vc rc t w)(hb:Below w.heap.size w w'):Pm5 W0 gt gr gin gX gF iA ic inn zA zc ins out hA vA rA hc vc rc t w':=⟨h.low.trans (hb.mono h.low.size),h.bt.below hb h.bt.lt,h.br.below hb h.br.lt,h.bi.below hb h.bi.lt,h.bx.below hb h.bx.lt,h.bf.below hb h.bf.lt⟩
theorem PmS.ext (h:PmS W0 gt gr gin gX gF iA ic inn zA zc ins out hA vA rA hc vc rc t gc gb g c bs w)(hb:Below w.heap.size w w'):PmS W0 gt gr gin gX gF iA ic inn zA zc ins out hA vA rA hc vc rc t gc gb g c bs w':=⟨h.p5.ext hb,h.bc.below hb h.bc.lt,h.bb.below hb h.bb.lt,h.bd.ext hb⟩
theorem PmS.bind (h:PmS W0 gt gr gin gX gF iA ic inn zA zc ins out hA vA rA hc vc rc t gc gb g c bs w)(hg:W0.heap.size≤g)(k:Kept (fun x=>x=g) w w')(hb:BindB w' g bs'):PmS W0 gt gr gin gX gF iA ic inn zA zc ins out hA vA rA hc vc rc t gc gb g c bs' w':=
 ⟨⟨h.p5.low.trans (k.to_below h.p5.low.size (fun x hx e=>by omega)),k.blk h.p5.bt (h.p5.bt.ne_ h.bd.2 (by decide)),k.blk h.p5.br (h.p5.br.ne_ h.bd.2 (by decide)),k.blk h.p5.bi (h.p5.bi.ne_ h.bd.2 (by decide)),k.blk h.p5.bx (h.p5.bx.ne_ h.bd.2 (by decide)),k.blk h.p5.bf (h.p5.bf.ne_ h.bd.2 (by decide))⟩,
  k.blk h.bc (h.bc.ne_ h.bd.2 (by decide)),k.blk h.bb (h.bb.ne_ h.bd.2 (by decide)),hb⟩
end
structure Pw4J (V:World)(g:Nat)(tv:Value)(gr:Nat)(zb:Nat)(zo:Nat)(zn:Nat)(zc:Nat)(ib:Nat)(io:Nat)(nn:Nat)(ic:Nat)(cn:Nat)(ee:Int)(ss:Int)(ok:Bool)(fv:Bool)(bb:List Int)(b0 b1 b2 b3 b4 b5 b6 b7 b8 b9 b10 b11 b12 b13 b14 b15 b16:Bool)(v21 v22 v23 v24 v25 v26 v27 v28 v29 v30 v31 v32 v20 v33 v34 v10 v11:Value)(w:World):Prop where
 h0:b0=true→v21=.pointer (some ⟨g,0,none⟩)
 h1:b1=true→v22=tv
 h2:b2=true→v23=.pointer (some ⟨gr,0,none⟩)
 h3:b3=true→v24=.slice (some ⟨zb,zo,none⟩) zn zc
 h4:b4=true→v25=.int .i64 (cn:Int)
 h5:b5=true→v26=.pointer (some ⟨zb,zo+cn,none⟩)
 h6:b6=true→v27=.int .i64 ee
 h7:b7=true→v28=.slice (some ⟨ib,io,none⟩) nn ic
 h8:b8=true→v29=.int .i64 (cn:Int)
 h9:b9=true→v30=.pointer (some ⟨ib,io+cn,none⟩)
 h10:b10=true→v31=.int .i64 ss
 h11:b11=true→v32=.tuple #[.bool ok,.bool fv]
 h12:b12=true→v20=.tuple #[.bool ok,.bool fv]
 h13:b13=true→v33=.bool ok
 h14:b14=true→v34=.bool fv
 h15:b15=true→v10=.bool ok
 h16:b16=true→v11=.bool fv
 wa:b11=false→w=V.drew
 wd:b11=true→BindB w g bb∧Kept (fun x=>x=g) V.drew w
 o3:b3=true→b2=true
 o5:b5=true→b3=true∧b4=true
 o6:b6=true→b5=true
 o9:b9=true→b7=true∧b8=true
 o10:b10=true→b9=true
 o11:b11=true→b0=true∧b1=true∧b6=true∧b10=true
 o12:b12=true→b11=true
 o13:b13=true→b12=true
 o14:b14=true→b12=true
 o15:b15=true→b13=true
 o16:b16=true→b14=true∧b15=true
set_option maxHeartbeats 16000000 in
theorem permOK:PermOK:=by
 intro hA hc vA vc rA rc t zA zc ins out iA ic inn w hR hst;obtain⟨w0,hw0⟩:∃ w0,w0=((((w.alloc (.cells #[.int .i64 t.st,.int .i64 t.sym,.slice hA t.hood.length hc,.slice vA t.vs.length vc,.slice rA t.rs.length rc] 26)).alloc (.cells #[.slice zA ins.length zc,.int .i64 out] 48)).alloc (.cells #[.slice iA inn.length ic] 30)).alloc (.cells #[.int .i64 0] 3)).alloc (.cells #[.bool false] 4):=⟨_,rfl⟩
 obtain⟨v1,hv1⟩:∃ v,v=w.alloc (.cells #[.int .i64 t.st,.int .i64 t.sym,.slice hA t.hood.length hc,.slice vA t.vs.length vc,.slice rA t.rs.length rc] 26):=⟨_,rfl⟩
 obtain⟨v2,hv2⟩:∃ v,v=v1.alloc (.cells #[.slice zA ins.length zc,.int .i64 out] 48):=⟨_,rfl⟩
 obtain⟨v3,hv3⟩:∃ v,v=v2.alloc (.cells #[.slice iA inn.length ic] 30):=⟨_,rfl⟩
 obtain⟨v4,hv4⟩:∃ v,v=v3.alloc (.cells #[.int .i64 0] 3):=⟨_,rfl⟩
 have hw0':w0=v4.alloc (.cells #[.bool false] 4):=by rw[hw0,hv4,hv3,hv2,hv1]
 have b1:Below w.heap.size w v1:=by rw[hv1];exact below_new _ _
 have b2:Below v1.heap.size v1 v2:=by rw[hv2];exact below_new _ _
 have b3:Below v2.heap.size v2 v3:=by rw[hv3];exact below_new _ _
 have b4:Below v3.heap.size v3 v4:=by rw[hv4];exact below_new _ _
 have b5:Below v4.heap.size v4 w0:=by rw[hw0'];exact below_new _ _
 have z1:v1.heap.size=w.heap.size+1:=by rw[hv1];exact sizeN _ _
 have z2:v2.heap.size=w.heap.size+1+1:=by rw[hv2,sizeN,z1]
 have z3:v3.heap.size=w.heap.size+1+1+1:=by rw[hv3,sizeN,z2]
 have z4:v4.heap.size=w.heap.size+1+1+1+1:=by rw[hv4,sizeN,z3]
 have z5:w0.heap.size=w.heap.size+1+1+1+1+1:=by rw[hw0',sizeN,z4]
 have c1:Blk v1 w.heap.size 26 #[.int .i64 t.st,.int .i64 t.sym,.slice hA t.hood.length hc,.slice vA t.vs.length vc,.slice rA t.rs.length rc]:=by rw[hv1];exact Blk.new _ _ _
 have c2:Blk v2 v1.heap.size 48 #[.slice zA ins.length zc,.int .i64 out]:=by rw[hv2];exact Blk.new _ _ _
 have c3:Blk v3 v2.heap.size 30 #[.slice iA inn.length ic]:=by rw[hv3];exact Blk.new _ _ _
 have c4:Blk v4 v3.heap.size 3 #[.int .i64 0]:=by rw[hv4];exact Blk.new _ _ _
 have c5:Blk w0 v4.heap.size 4 #[.bool false]:=by rw[hw0'];exact Blk.new _ _ _
 rw[z1] at c2;rw[z2] at c3;rw[z3] at c4;rw[z4] at c5;have hp0:Pm5 w w.heap.size (w.heap.size+1) (w.heap.size+1+1) (w.heap.size+1+1+1) (w.heap.size+1+1+1+1) iA ic inn zA zc ins out hA vA rA hc vc rc t w0:=
  ⟨b1.trans ((b2.trans ((b3.trans ((b4.trans (b5.mono b4.size)).mono b3.size)).mono b2.size)).mono b1.size),mv (mv (mv (mv c1 b2) b3) b4) b5,mv (mv (mv c2 b3) b4) b5,mv (mv c3 b4) b5,mv c4 b5,c5⟩
 obtain⟨gt,hgt⟩:∃ g,g=w.heap.size:=⟨_,rfl⟩
 obtain⟨gr,hgr⟩:∃ g,g=w.heap.size+1:=⟨_,rfl⟩
 obtain⟨gin,hgin⟩:∃ g,g=w.heap.size+1+1:=⟨_,rfl⟩
 obtain⟨gX,hgX⟩:∃ g,g=w.heap.size+1+1+1:=⟨_,rfl⟩
 obtain⟨gF,hgF⟩:∃ g,g=w.heap.size+1+1+1+1:=⟨_,rfl⟩
 have hp1:Pm5 w gt gr gin gX gF iA ic inn zA zc ins out hA vA rA hc vc rc t w0:=by rw[hgt,hgr,hgin,hgX,hgF];exact hp0
 have HP0:=hid hp1;have HW0:=hid (And.intro hw0 (And.intro hgt (And.intro hgr (And.intro hgin (And.intro hgX hgF)))));have HN0:Hid (w.heap.size≤gt∧gr=gt+1∧gin=gt+2∧gX=gt+3∧gF=gt+4∧w0.heap.size=gt+5):=hid (by omega);have HR:=hid hR;have HST:=hid hst;have hn25:inn.length≤25:=by rw[hR.li];exact (hoodB_len hR.hood).2
 have HN25:=hid hn25;have HLL:Hid (ins.length=inn.length):=hid (by rw[hR.lz,hR.li]);obtain⟨vars,hvars⟩:∃ v,v=t.vs.map Vh.zs:=⟨_,rfl⟩
 rw[← hvars];have HVS:=hid hvars;obtain⟨res,hres⟩:∃ r,r=permutedP t.hood vars ins out inn:=⟨_,rfl⟩
 rw[← hres];have HRES:=hid hres;obtain⟨c,hcc⟩:∃ c,c=ctrP t.hood:=⟨_,rfl⟩
 have HC:=hid hcc;have hcall:=centre_any hA t.hood hc w0 (hR.pts.ext (hp0.low));rw[← hcc] at hcall;have HCALL:=hid hcall;have HCR:Hid (0≤c→c.toNat < inn.length):=hid (fun h=>by
  rcases ctr_lt15 t.hood with h1 | ⟨-,h2⟩
  ·rw[← hcc] at h1;omega
  ·rw[hcc,hR.li];exact h2)
 have x2:=hp1.bt.cell_ 2 (.slice hA t.hood.length hc) rfl;unfold tabV;clear hv1 hv2 hv3 hv4 hw0' b1 b2 b3 b4 b5 z1 z2 z3 z4 z5 c1 c2 c3 c4 c5 hp0 hp1 hw0 hgt hgr hgin hgX hgF hR hst hn25 hvars hres hcc hcall;go_enter Tryz.func75,Tryz.ntmps75;go_upto_region 1 with fail
 rw[← HW0.out.1,← HW0.out.2.2.2.2.2,← HW0.out.2.2.2.2.1,← HW0.out.2.2.2.1,← HW0.out.2.2.1,← HW0.out.2.1];clear HW0;go_wp2_with (go_at_call 45;refine HCALL.out.mono ?_;rintro e w1 ⟨rfl,hb1⟩;refine Hid.out ?_);refine hid ?_;have HP1:=hid (HP0.out.ext hb1);have HN1:Hid (w0.heap.size≤w1.heap.size):=hid hb1.size;clear hb1 x2 HCALL HP0;go_upto_region 2 with fail
 obtain⟨gc,hgc⟩:∃ g,g=w1.heap.size:=⟨_,rfl⟩
 obtain⟨w2,hw2⟩:∃ W,W=w1.alloc (.cells #[.int .i64 c] 3):=⟨_,rfl⟩
 have hb2:Below w1.heap.size w1 w2:=by rw[hw2];exact below_new _ _
 have hbc:Blk w2 gc 3 #[.int .i64 c]:=by rw[hw2,hgc];exact Blk.new _ _ _
 have HBC:=hid hbc;have HP2:=hid (HP1.out.ext hb2);have HNN:=hid (none_any w2);rw[← hgc,← hw2];have HN2:Hid (gt+5≤gc∧gc < w2.heap.size):=hid (by
  have h1:w2.heap.size=w1.heap.size+1:=by rw[hw2];exact sizeN _ _
  have h2:=HN0.out;have h3:=HN1.out;omega)
 clear hgc hw2 hb2 hbc HP1 HN1;go_wp2_with (go_at_call 111;refine HNN.out.mono ?_;rintro e w3 ⟨g,rfl,hg3,hbd3,hb3⟩;refine Hid.out ?_);refine hid ?_;have HP3:=hid (HP2.out.ext hb3);have HBC3:=hid (mv HBC.out hb3);have HBD3:=hid hbd3;have HN3:Hid (gc < g∧g < w3.heap.size∧w2.heap.size≤g):=hid ⟨Nat.lt_of_lt_of_le HN2.out.2 hg3,hbd3.lt,hg3⟩;clear hg3 hbd3 hb3 HP2 HBC HNN;go_upto_region 3 with fail
 obtain⟨gb,hgb⟩:∃ g,g=w3.heap.size:=⟨_,rfl⟩
 obtain⟨w4,hw4⟩:∃ W,W=w3.alloc (.cells #[.pointer (some ⟨g,0,none⟩)] 120):=⟨_,rfl⟩
 have hb4:Below w3.heap.size w3 w4:=by rw[hw4];exact below_new _ _
 have hbb:Blk w4 gb 120 #[.pointer (some ⟨g,0,none⟩)]:=by rw[hw4,hgb];exact Blk.new _ _ _
 have hm4:PmS w gt gr gin gX gF iA ic inn zA zc ins out hA vA rA hc vc rc t gc gb g c negL w4:=⟨HP3.out.ext hb4,mv HBC3.out hb4,hbb,HBD3.out.ext hb4⟩
 have HM4:=hid hm4;rw[← hgb,← hw4];have HN4:Hid (g < gb∧gb < w4.heap.size):=hid ⟨by rw[hgb];exact HN3.out.2.1,hbb.lt⟩;clear hgb hw4 hb4 hbb hm4 HP3 HBC3 HBD3;have x8:=HM4.out.bc.cell_ 0 (.int .i64 c) rfl;by_cases h0:0≤c
 ·have d0:decide (0≤c)=true:=decide_eq_true h0;have HC0:=hid h0;clear h0;go_upto_region 4 with fail
  have hcn:=HCR.out HC0.out;obtain⟨cn,rfl⟩:∃ n:Nat,c=(n:Int):=⟨c.toNat,by have:=HC0.out;omega⟩
  rw[Int.toNat_natCast] at hcn;have hcz':cn < ins.length:=by rw[HLL.out];exact hcn
  obtain⟨zb,zo,ez,-,hcz⟩:=(HR.out.rz.ext HM4.out.p5.low).at_ hcz';obtain⟨ib,io,ei,-,hci⟩:=(HR.out.ri.ext HM4.out.p5.low).at_ hcn;have hel:=HR.out.ez (ins[cn]'hcz') (List.getElem_mem hcz');have hsn:=HST.out (inn[cn]'hcn) (List.getElem_mem hcn);obtain⟨e,hee⟩:∃ e,e=ins[cn]'hcz':=⟨_,rfl⟩
  obtain⟨s,hss⟩:∃ s,s=inn[cn]'hcn:=⟨_,rfl⟩
  have hge:ins.getD cn 0=e:=by rw[hee,List.getD_eq_getElem?_getD,List.getElem?_eq_getElem hcz'];rfl
  have hgs:inn.getD cn 0=s:=by rw[hss,List.getD_eq_getElem?_getD,List.getElem?_eq_getElem hcn];rfl
  rw[← hee] at hcz hel;rw[← hss] at hci hsn;have HEL:=hid hel;have HS0:=hid hsn.1;subst ez ei;have HCZ:=hid hcz;have HCI:=hid hci;have HVW:Hid (Vrs w4 vA t.vs):=hid (HR.out.vrs.ext HM4.out.p5.low);have hcall:=fun (W:World) (hW:BindB W g negL) (hV2:Vrs W vA t.vs)=>accept_any g hA hc vA vc rA rc t negL e s W hW hV2 HEL.out.1 HR.out.v40 HEL.out.2;rw[← HVS.out] at hcall;unfold tabV at hcall;obtain⟨ok,hok⟩:∃ x,x=(acceptP vars negL e s).1:=⟨_,rfl⟩
  obtain⟨fv,hfv⟩:∃ x,x=(acceptP vars negL e s).2.1:=⟨_,rfl⟩
  obtain⟨b',hb'⟩:∃ x,x=(acceptP vars negL e s).2.2:=⟨_,rfl⟩
  have hres:res=if ok=true then placeP vars ins out inn (cn:Int) inn.length b' (List.replicate inn.length false) (0,false) else (0,false):=by
   rw[HRES.out];unfold permutedP;rw[← HC.out,if_pos HC0.out,Int.toNat_natCast,hge,hgs,← hok,← hb']
  have HRS0:=hid hres;have HNG:Hid (NegOr b'):=hid (by rw[hb'];exact NegOr.neg.accept HS0.out);rw[← hok,← hfv,← hb'] at hcall;have HCALL:=hid hcall;have HG4:Hid (w.heap.size≤g):=hid (by have h0:=HN0.out;have h2:=HN2.out;have h3:=HN3.out;omega);clear hcz hci hel hsn hee hss hge hgs hok hfv hb' hres hcall x8;refine wp_region_J (by kernel_rfl) (fun listed act w'=>∃ b0 b1 b2 b3 b4 b5 b6 b7 b8 b9 b10 b11 b12 b13 b14 b15 b16 v21 v22 v23 v24 v25 v26 v27 v28 v29 v30 v31 v32 v20 v33 v34 v10 v11,listed=#[b0,b1,b2,b3,b4,b5,b6,b7,b8,b9,b10,b11,b12,b13,b14,b15,b16]∧act=Act.mk #[.agg #[.int .i64 t.st,.int .i64 t.sym,.slice hA t.hood.length hc,.slice vA t.vs.length vc,.slice rA t.rs.length rc],.agg #[.slice (some ⟨zb,zo,none⟩) ins.length zc,.int .i64 out],.slice (some ⟨ib,io,none⟩) inn.length ic,.pointer (some ⟨gt,0,none⟩),.pointer (some ⟨gr,0,none⟩),.pointer (some ⟨gin,0,none⟩),.pointer (some ⟨gX,0,none⟩),.pointer (some ⟨gF,0,none⟩),.pointer (some ⟨gc,0,none⟩),.pointer (some ⟨gb,0,none⟩),v10,v11,undef,undef,.pointer (some ⟨gt,2,none⟩),.slice hA t.hood.length hc,.int .i64 (cn:Int),.pointer (some ⟨g,0,none⟩),.int .i64 (cn:Int),.bool true,v20,v21,v22,v23,v24,v25,v26,v27,v28,v29,v30,v31,v32,v33,v34,undef,undef,undef,undef,undef,undef,undef,undef,undef,undef] []∧Pw4J w4 (g) (.agg #[.int .i64 t.st,.int .i64 t.sym,.slice hA t.hood.length hc,.slice vA t.vs.length vc,.slice rA t.rs.length rc]) (gr) (zb) (zo) (ins.length) (zc) (ib) (io) (inn.length) (ic) (cn) (e) (s) (ok) (fv) (b') b0 b1 b2 b3 b4 b5 b6 b7 b8 b9 b10 b11 b12 b13 b14 b15 b16 v21 v22 v23 v24 v25 v26 v27 v28 v29 v30 v31 v32 v20 v33 v34 v10 v11 w') ?_ ?_ ?_
  ·exact (e_8 (e_8 (e_8 (e_8 (e_2 ⟨rfl,rfl,(by constructor;(case wa=>exact (fun _=>rfl));all_goals simp)⟩)))))
  ·rintro i listed act w' hi ⟨b0,b1,b2,b3,b4,b5,b6,b7,b8,b9,b10,b11,b12,b13,b14,b15,b16,v21,v22,v23,v24,v25,v26,v27,v28,v29,v30,v31,v32,v20,v33,v34,v10,v11,rfl,rfl,H⟩;have hi16:i < 17:=by
    obtain⟨-,o,ho,-⟩:=mem_ready.1 hi;exact (Array.getElem?_eq_some_iff.1 ho).1
   obtain rfl | rfl | rfl | rfl | rfl | rfl | rfl | rfl | rfl | rfl | rfl | rfl | rfl | rfl | rfl | rfl | rfl:i=0∨i=1∨i=2∨i=3∨i=4∨i=5∨i=6∨i=7∨i=8∨i=9∨i=10∨i=11∨i=12∨i=13∨i=14∨i=15∨i=16:=by omega
   all_goals simp[mem_ready,Region.binds] at hi
   ·have bcf:b11=false:=by
     cases hb:b11 with
     | false=>rfl
     | true=>exact absurd (H.o11 hb).1 (by simp[hi])
    obtain rfl:=H.wa bcf;have BCF:=hid bcf;clear bcf;have cc:(World.drew w4).cell? ⟨gb,0,none⟩=some (.pointer (some ⟨g,0,none⟩)):=HM4.out.bb.cell_ 0 _ rfl;refine wpOp_hidden rfl fun K hK=>?_;go_wp2;refine OnlyN.mk (hK.out _ _ (e_8 (e_8 (e_8 (e_8 (e_2 ⟨rfl,rfl,{ H with h0:=fun _=>rfl,o11:=fun h=>⟨rfl,(H.o11 h).2.1,(H.o11 h).2.2.1,(H.o11 h).2.2.2⟩ }⟩))))))
   ·have bcf:b11=false:=by
     cases hb:b11 with
     | false=>rfl
     | true=>exact absurd (H.o11 hb).2.1 (by simp[hi])
    obtain rfl:=H.wa bcf;have BCF:=hid bcf;clear bcf;have hcc:Blk (World.drew w4) gt 26 #[.int .i64 t.st,.int .i64 t.sym,.slice hA t.hood.length hc,.slice vA t.vs.length vc,.slice rA t.rs.length rc]:=HM4.out.p5.bt;have cc0:=hcc.cell_ 0 (.int .i64 t.st) rfl;have cc1:=hcc.cell_ 1 (.int .i64 t.sym) rfl;have cc2:=hcc.cell_ 2 (.slice hA t.hood.length hc) rfl;have cc3:=hcc.cell_ 3 (.slice vA t.vs.length vc) rfl;have cc4:=hcc.cell_ 4 (.slice rA t.rs.length rc) rfl;clear hcc;refine wpOp_hidden rfl fun K hK=>?_;go_wp2;refine OnlyN.mk (hK.out _ _ (e_8 (e_8 (e_8 (e_8 (e_2 ⟨rfl,rfl,{ H with h1:=fun _=>rfl,o11:=fun h=>⟨(H.o11 h).1,rfl,(H.o11 h).2.2.1,(H.o11 h).2.2.2⟩ }⟩))))))
   ·refine wpOp_hidden rfl fun K hK=>?_;go_wp2;refine OnlyN.mk (hK.out _ _ (e_8 (e_8 (e_8 (e_8 (e_2 ⟨rfl,rfl,{ H with h2:=fun _=>rfl,o3:=fun h=>rfl }⟩))))))
   ·obtain rfl:=H.h2 (by simp[hi]);have bcf:b11=false:=by
     cases hb:b11 with
     | false=>rfl
     | true=>exact absurd (H.o5 (H.o6 (H.o11 hb).2.2.1)).1 (by simp[hi])
    obtain rfl:=H.wa bcf;have BCF:=hid bcf;clear bcf;have cc:(World.drew w4).cell? ⟨gr,0,none⟩=some (.slice (some ⟨zb,zo,none⟩) ins.length zc):=HM4.out.p5.br.cell_ 0 _ rfl;refine wpOp_hidden rfl fun K hK=>?_;go_wp2;refine OnlyN.mk (hK.out _ _ (e_8 (e_8 (e_8 (e_8 (e_2 ⟨rfl,rfl,{ H with h3:=fun _=>rfl,o3:=fun _=>(by simp[hi]),o5:=fun h=>⟨rfl,(H.o5 h).2⟩ }⟩))))))
   ·have bcf:b11=false:=by
     cases hb:b11 with
     | false=>rfl
     | true=>exact absurd (H.o5 (H.o6 (H.o11 hb).2.2.1)).2 (by simp[hi])
    obtain rfl:=H.wa bcf;have BCF:=hid bcf;clear bcf;have cc:(World.drew w4).cell? ⟨gc,0,none⟩=some (.int .i64 (cn:Int)):=HM4.out.bc.cell_ 0 _ rfl;refine wpOp_hidden rfl fun K hK=>?_;go_wp2;refine OnlyN.mk (hK.out _ _ (e_8 (e_8 (e_8 (e_8 (e_2 ⟨rfl,rfl,{ H with h4:=fun _=>rfl,o5:=fun h=>⟨(H.o5 h).1,rfl⟩ }⟩))))))
   ·obtain rfl:=H.h3 (by simp[hi]);obtain rfl:=H.h4 (by simp[hi]);refine wpOp_hidden rfl fun K hK=>?_;go_wp2;refine OnlyN.mk (hK.out _ _ (e_8 (e_8 (e_8 (e_8 (e_2 ⟨rfl,rfl,{ H with h5:=fun _=>rfl,o5:=fun _=>(by simp[hi]),o6:=fun h=>rfl }⟩))))))
   ·obtain rfl:=H.h5 (by simp[hi]);have bcf:b11=false:=by
     cases hb:b11 with
     | false=>rfl
     | true=>exact absurd (H.o11 hb).2.2.1 (by simp[hi])
    obtain rfl:=H.wa bcf;have BCF:=hid bcf;clear bcf;have cc:(World.drew w4).cell? ⟨zb,zo+cn,none⟩=some (.int .i64 e):=HCZ.out;refine wpOp_hidden rfl fun K hK=>?_;go_wp2;refine OnlyN.mk (hK.out _ _ (e_8 (e_8 (e_8 (e_8 (e_2 ⟨rfl,rfl,{ H with h6:=fun _=>rfl,o6:=fun _=>(by simp[hi]),o11:=fun h=>⟨(H.o11 h).1,(H.o11 h).2.1,rfl,(H.o11 h).2.2.2⟩ }⟩))))))
   ·have bcf:b11=false:=by
     cases hb:b11 with
     | false=>rfl
     | true=>exact absurd (H.o9 (H.o10 (H.o11 hb).2.2.2)).1 (by simp[hi])
    obtain rfl:=H.wa bcf;have BCF:=hid bcf;clear bcf;have cc:(World.drew w4).cell? ⟨gin,0,none⟩=some (.slice (some ⟨ib,io,none⟩) inn.length ic):=HM4.out.p5.bi.cell_ 0 _ rfl;refine wpOp_hidden rfl fun K hK=>?_;go_wp2;refine OnlyN.mk (hK.out _ _ (e_8 (e_8 (e_8 (e_8 (e_2 ⟨rfl,rfl,{ H with h7:=fun _=>rfl,o9:=fun h=>⟨rfl,(H.o9 h).2⟩ }⟩))))))
   ·have bcf:b11=false:=by
     cases hb:b11 with
     | false=>rfl
     | true=>exact absurd (H.o9 (H.o10 (H.o11 hb).2.2.2)).2 (by simp[hi])
    obtain rfl:=H.wa bcf;have BCF:=hid bcf;clear bcf;have cc:(World.drew w4).cell? ⟨gc,0,none⟩=some (.int .i64 (cn:Int)):=HM4.out.bc.cell_ 0 _ rfl;refine wpOp_hidden rfl fun K hK=>?_;go_wp2;refine OnlyN.mk (hK.out _ _ (e_8 (e_8 (e_8 (e_8 (e_2 ⟨rfl,rfl,{ H with h8:=fun _=>rfl,o9:=fun h=>⟨(H.o9 h).1,rfl⟩ }⟩))))))
   ·obtain rfl:=H.h7 (by simp[hi]);obtain rfl:=H.h8 (by simp[hi]);refine wpOp_hidden rfl fun K hK=>?_;go_wp2;refine OnlyN.mk (hK.out _ _ (e_8 (e_8 (e_8 (e_8 (e_2 ⟨rfl,rfl,{ H with h9:=fun _=>rfl,o9:=fun _=>(by simp[hi]),o10:=fun h=>rfl }⟩))))))
   ·obtain rfl:=H.h9 (by simp[hi]);have bcf:b11=false:=by
     cases hb:b11 with
     | false=>rfl
     | true=>exact absurd (H.o11 hb).2.2.2 (by simp[hi])
    obtain rfl:=H.wa bcf;have BCF:=hid bcf;clear bcf;have cc:(World.drew w4).cell? ⟨ib,io+cn,none⟩=some (.int .i64 s):=HCI.out;refine wpOp_hidden rfl fun K hK=>?_;go_wp2;refine OnlyN.mk (hK.out _ _ (e_8 (e_8 (e_8 (e_8 (e_2 ⟨rfl,rfl,{ H with h10:=fun _=>rfl,o10:=fun _=>(by simp[hi]),o11:=fun h=>⟨(H.o11 h).1,(H.o11 h).2.1,(H.o11 h).2.2.1,rfl⟩ }⟩))))))
   ·obtain rfl:=H.h0 (by simp[hi]);obtain rfl:=H.h1 (by simp[hi]);obtain rfl:=H.h6 (by simp[hi]);obtain rfl:=H.h10 (by simp[hi]);obtain rfl:=H.wa (by simp[hi]);refine wpOp_hidden rfl fun K hK=>?_;have hB7:BindB (World.drew w4) g negL:=HM4.out.bd.ext (Below.refl _ w4).drew;have hcall7:=HCALL.out (World.drew w4) hB7 (HVW.out.ext (Below.refl _ w4).drew);have HC7:=hid hcall7;clear hcall7 hB7;go_wp2_with (go_at_call 112;refine HC7.out.mono ?_;rintro en w9 ⟨rfl,hb9,hk9⟩;refine Hid.out ?_);refine hid ?_;have HB9:=hid hb9;have HK9:=hid hk9;clear hb9 hk9 HC7;go_wp2;refine OnlyN.mk (hK.out _ _ (e_8 (e_8 (e_8 (e_8 (e_2 ⟨rfl,rfl,{ H with h11:=fun _=>rfl,wa:=fun h=>(by cases h),wd:=fun _=>⟨HB9.out,HK9.out⟩,o11:=fun _=>(by simp[hi]),o12:=fun h=>rfl }⟩))))))
   ·obtain rfl:=H.h11 (by simp[hi]);refine wpOp_hidden rfl fun K hK=>?_;go_wp2;refine OnlyN.mk (hK.out _ _ (e_8 (e_8 (e_8 (e_8 (e_2 ⟨rfl,rfl,{ H with h12:=fun _=>rfl,o12:=fun _=>(by simp[hi]),o13:=fun h=>rfl,o14:=fun h=>rfl }⟩))))))
   ·obtain rfl:=H.h12 (by simp[hi]);refine wpOp_hidden rfl fun K hK=>?_;go_wp2;refine OnlyN.mk (hK.out _ _ (e_8 (e_8 (e_8 (e_8 (e_2 ⟨rfl,rfl,{ H with h13:=fun _=>rfl,o13:=fun _=>(by simp[hi]),o15:=fun h=>rfl }⟩))))))
   ·obtain rfl:=H.h12 (by simp[hi]);refine wpOp_hidden rfl fun K hK=>?_;go_wp2;refine OnlyN.mk (hK.out _ _ (e_8 (e_8 (e_8 (e_8 (e_2 ⟨rfl,rfl,{ H with h14:=fun _=>rfl,o14:=fun _=>(by simp[hi]),o16:=fun h=>⟨rfl,(H.o16 h).2⟩ }⟩))))))
   ·obtain rfl:=H.h13 (by simp[hi]);refine wpOp_hidden rfl fun K hK=>?_;go_wp2;refine OnlyN.mk (hK.out _ _ (e_8 (e_8 (e_8 (e_8 (e_2 ⟨rfl,rfl,{ H with h15:=fun _=>rfl,o15:=fun _=>(by simp[hi]),o16:=fun h=>⟨(H.o16 h).1,rfl⟩ }⟩))))))
   ·obtain rfl:=H.h14 (by simp[hi]);obtain rfl:=H.h15 (by simp[hi]);refine wpOp_hidden rfl fun K hK=>?_;go_wp2;refine OnlyN.mk (hK.out _ _ (e_8 (e_8 (e_8 (e_8 (e_2 ⟨rfl,rfl,{ H with h16:=fun _=>rfl,o16:=fun _=>(by simp[hi]) }⟩))))))
  ·rintro listed act w' hr ⟨b0,b1,b2,b3,b4,b5,b6,b7,b8,b9,b10,b11,b12,b13,b14,b15,b16,v21,v22,v23,v24,v25,v26,v27,v28,v29,v30,v31,v32,v20,v33,v34,v10,v11,rfl,rfl,H⟩;have hn:=List.eq_nil_iff_forall_not_mem.1 hr;have r0:=hn 0;simp[mem_ready,Region.binds] at r0;subst r0;have r1:=hn 1;simp[mem_ready,Region.binds] at r1;subst r1;have r2:=hn 2;simp[mem_ready,Region.binds] at r2;subst r2;have r3:=hn 3;simp[mem_ready,Region.binds] at r3;subst r3;have r4:=hn 4;simp[mem_ready,Region.binds] at r4;subst r4;have r5:=hn 5;simp[mem_ready,Region.binds] at r5;subst r5;have r6:=hn 6;simp[mem_ready,Region.binds] at r6;subst r6;have r7:=hn 7;simp[mem_ready,Region.binds] at r7;subst r7;have r8:=hn 8;simp[mem_ready,Region.binds] at r8;subst r8;have r9:=hn 9;simp[mem_ready,Region.binds] at r9;subst r9;have r10:=hn 10;simp[mem_ready,Region.binds] at r10;subst r10;have r11:=hn 11;simp[mem_ready,Region.binds] at r11;subst r11;have r12:=hn 12;simp[mem_ready,Region.binds] at r12;subst r12;have r13:=hn 13;simp[mem_ready,Region.binds] at r13;subst r13;have r14:=hn 14;simp[mem_ready,Region.binds] at r14;subst r14;have r15:=hn 15;simp[mem_ready,Region.binds] at r15;subst r15;have r16:=hn 16;simp[mem_ready,Region.binds] at r16;subst r16;try dsimp only
   obtain⟨hb9,hk9⟩:=H.wd rfl;obtain rfl:=H.h15 rfl;obtain rfl:=H.h16 rfl;obtain⟨w5,rfl⟩:∃ w5:World,w5=w':=⟨_,rfl⟩
   have HM5:=hid ((HM4.out.ext (Below.refl _ w4).drew).bind HG4.out hk9 hb9);clear H hr hn hb9 hk9;cases ok with
   | false=>
    have HRS:Hid (res=(0,false)):=hid (by rw[HRS0.out];rfl);have z6:=HM5.out.p5.bx.cell_ 0 (.int .i64 0) rfl;have z7:=HM5.out.p5.bf.cell_ 0 (.bool false) rfl;have f6:=HM5.out.p5.bx.frozen 0;have f7:=HM5.out.p5.bf.frozen 0;have hfx:gX < gF:=by have:=HN0.out;omega
    go_wp2;have hfx2:gF≠gX:=by omega
    have hbx:=(HM5.out.p5.bx.set_ 0 (.int .i64 0)).far (p:=⟨gF,0,none⟩) hfx2.symm (.bool false);have hbf:=(HM5.out.p5.bf.far (p:=⟨gX,0,none⟩) hfx2 (.int .i64 0)).set_ 0 (.bool false);have hlo:Below w.heap.size w ((w5.setCell ⟨gX,0,none⟩ (.int .i64 0)).setCell ⟨gF,0,none⟩ (.bool false)):=(HM5.out.p5.low.setCell (p:=⟨gX,0,none⟩) (by have:=HN0.out;show w.heap.size≤gX;omega) _).setCell (p:=⟨gF,0,none⟩) (by have:=HN0.out;show w.heap.size≤gF;omega) _;(try simp only[Exit.inBlock,Exit.then]);refine bodyPost_ret (results_cc rfl _ rfl rfl Tryz.underlying3 rfl Tryz.underlying4 rfl (hbx.cell_ 0 (.int .i64 0) rfl) (hbf.cell_ 0 (.bool false) rfl)) rfl ?_;exact⟨by rw[HRS.out],hlo⟩
   | true=>
    have HRS:Hid (res=placeP vars ins out inn (cn:Int) inn.length b' (List.replicate inn.length false) (0,false)):=hid (by rw[HRS0.out];rfl);go_upto_region 7 with fail
    obtain⟨i0,hi0,hz0,hz1,hz2⟩:=info_parts Tryz.infoBool;have hmw:w5.heap.size≤w5.heap.size:=Nat.le_refl _;have hn25:=HN25.out;have x5:=HM5.out.p5.bi.cell_ 0 (.slice (some ⟨ib,io,none⟩) inn.length ic) rfl;go_wp2_with (at_make;refine wpList_make_full _ rfl _ _ 124 rfl w5.heap.size 4 i0 _ 1 Tryz.underlying124 hi0 hz0 hz1 .i64 .i64 inn.length inn.length inn.length rfl rfl rfl rfl (by rw[hz2];omega) (by unfold maxLen;omega) hmw ?_);intro w6 ho6 hg6;have hsz6:w5.heap.size < w6.heap.size:=(own_lt' ho6 rfl).1;rw[toList_madeCells_one] at ho6;have hb6:Below w5.heap.size w5 w6:=(Below.refl _ w5).grown hg6 (Nat.le_refl _) (by intro k hk;cases hk);obtain⟨ub,hub⟩:∃ g,g=w5.heap.size:=⟨_,rfl⟩
    rw[← hub] at ho6 hsz6;clear hg6 hi0 hz0 hz1 hz2 hmw x5 hn25;have ho6':OwnBl w6 w.heap.size (.slice (some ⟨ub,0,none⟩) inn.length inn.length) (List.replicate inn.length false):=by
     unfold OwnBl;rw[List.length_replicate,List.map_replicate];exact own_weak ho6 (by rw[hub];exact HM5.out.p5.low.size)
    have HO6:=hid ho6';have HM6:=hid (HM5.out.ext hb6);have HN6:Hid (gb < ub∧ub < w6.heap.size):=hid ⟨by rw[hub];exact HM5.out.bb.lt,hsz6⟩;go_upto_region 8 with fail
    rw[← hub];clear hub ho6 ho6' hb6 hsz6;obtain⟨gu,hgu⟩:∃ g,g=w6.heap.size:=⟨_,rfl⟩
    obtain⟨w7,hw7⟩:∃ W,W=w6.alloc (.cells #[.slice (some ⟨ub,0,none⟩) inn.length inn.length] 124):=⟨_,rfl⟩
    rw[← hgu,← hw7];have hb7:Below w6.heap.size w6 w7:=by rw[hw7];exact below_new _ _
    have hbu:Blk w7 gu 124 #[.slice (some ⟨ub,0,none⟩) inn.length inn.length]:=by rw[hw7,hgu];exact Blk.new _ _ _
    have HBU7:=hid hbu;have HM7:=hid (HM6.out.ext hb7);have ho7:OwnBl w7 w.heap.size (.slice (some ⟨ub,0,none⟩) inn.length inn.length) (List.replicate inn.length false):=own_below HO6.out hb7;have HO7:=hid ho7;have HN7:Hid (ub < gu∧gu < w7.heap.size):=hid ⟨by rw[hgu];exact HN6.out.2,hbu.lt⟩;clear hgu hw7 hb7 hbu ho7 HO6 HM6;go_upto_region 9 with fail
    obtain⟨gp,hgp⟩:∃ g,g=w7.heap.size:=⟨_,rfl⟩
    obtain⟨w8,hw8⟩:∃ W,W=w7.alloc (.cells #[.nilFunc] 125):=⟨_,rfl⟩
    rw[← hgp,← hw8];have hb8:Below w7.heap.size w7 w8:=by rw[hw8];exact below_new _ _
    have hbp:Blk w8 gp 125 #[.nilFunc]:=by rw[hw8,hgp];exact Blk.new _ _ _
    have q8:=hbp.cell_ 0 .nilFunc rfl;have f8:=hbp.frozen 0;have hb9:Below w7.heap.size w7 (w8.setCell ⟨gp,0,none⟩ (.func (.func 113) #[] #[.pointer (some ⟨gin,0,none⟩),.pointer (some ⟨gb,0,none⟩),.pointer (some ⟨gr,0,none⟩),.pointer (some ⟨gF,0,none⟩),.pointer (some ⟨gX,0,none⟩),.pointer (some ⟨gc,0,none⟩),.pointer (some ⟨gp,0,none⟩),.pointer (some ⟨gu,0,none⟩),.pointer (some ⟨gt,0,none⟩)])):=hb8.setCell (p:=⟨gp,0,none⟩) (by rw[hgp];exact Nat.le_refl _) _;have hbp9:=hbp.set_ 0 (.func (.func 113) #[] #[.pointer (some ⟨gin,0,none⟩),.pointer (some ⟨gb,0,none⟩),.pointer (some ⟨gr,0,none⟩),.pointer (some ⟨gF,0,none⟩),.pointer (some ⟨gX,0,none⟩),.pointer (some ⟨gc,0,none⟩),.pointer (some ⟨gp,0,none⟩),.pointer (some ⟨gu,0,none⟩),.pointer (some ⟨gt,0,none⟩)]);have HBP9:=hid hbp9;have HM9:=hid (HM7.out.ext hb9);have HBU9:=hid (mv HBU7.out hb9);have ho9:OwnBl (w8.setCell ⟨gp,0,none⟩ (.func (.func 113) #[] #[.pointer (some ⟨gin,0,none⟩),.pointer (some ⟨gb,0,none⟩),.pointer (some ⟨gr,0,none⟩),.pointer (some ⟨gF,0,none⟩),.pointer (some ⟨gX,0,none⟩),.pointer (some ⟨gc,0,none⟩),.pointer (some ⟨gp,0,none⟩),.pointer (some ⟨gu,0,none⟩),.pointer (some ⟨gt,0,none⟩)])) w.heap.size (.slice (some ⟨ub,0,none⟩) inn.length inn.length) (List.replicate inn.length false):=own_below HO7.out hb9;have HO9:=hid ho9;have HN8:Hid (gu < gp):=hid (by rw[hgp];exact HN7.out.2);clear hgp hw8 hb8 hbp hb9 hbp9 ho9 HO7 HM7 HBU7;go_upto_region 10 with fail
    clear q8 f8;obtain⟨w9,hw9⟩:∃ W,W=w8.setCell ⟨gp,0,none⟩ (.func (.func 113) #[] #[.pointer (some ⟨gin,0,none⟩),.pointer (some ⟨gb,0,none⟩),.pointer (some ⟨gr,0,none⟩),.pointer (some ⟨gF,0,none⟩),.pointer (some ⟨gX,0,none⟩),.pointer (some ⟨gc,0,none⟩),.pointer (some ⟨gp,0,none⟩),.pointer (some ⟨gu,0,none⟩),.pointer (some ⟨gt,0,none⟩)]):=⟨_,rfl⟩
    rw[← hw9] at HBP9 HM9 HBU9 HO9 ⊢;clear hw9;have hpls:PlS w gin gb gr gF gX gc gp gu gt g ub (some ⟨ib,io,none⟩) ic inn (some ⟨zb,zo,none⟩) zc ins out (cn:Int) hA vA rA hc vc rc t b' (List.replicate inn.length false) (0,false) w9:=
     ⟨HM9.out.p5.low,HM9.out.p5.bi,HM9.out.bb,HM9.out.p5.br,HM9.out.bc,HBP9.out,HBU9.out,HM9.out.p5.bt,HM9.out.p5.bf,HM9.out.p5.bx,HM9.out.bd,HO9.out⟩
    have hpld:PlD w.heap.size gin gb gr gF gX gc gp gu gt g ub:=by
     have n0:=HN0.out;have n2:=HN2.out;have n3:=HN3.out;have n4:=HN4.out;have n6:=HN6.out;have n7:=HN7.out;have n8:=HN8.out;refine⟨fun x hx=>?_,fun x hx=>?_,?_⟩
     ·rcases hx with e | e | e | e <;> omega
     ·rcases hx with e | e | e | e <;> omega
     ·omega
    have hcall:=place_any w gin gb gr gF gX gc gp gu gt g ub (some ⟨ib,io,none⟩) ic inn (some ⟨zb,zo,none⟩) zc ins out (cn:Int) hA vA rA hc vc rc t hpld HST.out HR.out.rz HR.out.ri HR.out.vrs HR.out.v40 HLL.out HN25.out HR.out.ez HR.out.eo inn.length b' (List.replicate inn.length false) (0,false) w9 (Nat.le_refl _) (by simp) HNG.out hpls;rw[← HVS.out,Nat.sub_self,← HRS.out] at hcall;have HCALL:=hid hcall;have y7:=HBP9.out.cell_ 0 _ rfl;clear hpls hpld hcall;go_wp2_with (go_at_call 113;refine HCALL.out.mono ?_;rintro e w10 ⟨rfl,hp10,hk10⟩;refine Hid.out ?_);refine hid ?_;have HP10:=hid hp10;clear hp10 hk10 y7 HCALL HM9 HBU9 HO9 HBP9;have z6:=HP10.out.bx.cell_ 0 (.int .i64 res.1) rfl;have z7:=HP10.out.bf.cell_ 0 (.bool res.2) rfl;have f6:=HP10.out.bx.frozen 0;have f7:=HP10.out.bf.frozen 0;have hfx:gX < gF:=by have:=HN0.out;omega
    go_upto_region 11 with fail
    go_region
    clear z6 z7 f6 f7;go_wp2;have hfx2:gF≠gX:=by omega
    have hbx:=((HP10.out.bx.set_ 0 (.int .i64 res.1)).far (p:=⟨gF,0,none⟩) hfx2.symm (.bool res.2)).drew;have hbf:=((HP10.out.bf.far (p:=⟨gX,0,none⟩) hfx2 (.int .i64 res.1)).set_ 0 (.bool res.2)).drew;have hlo:Below w.heap.size w (((w10.setCell ⟨gX,0,none⟩ (.int .i64 res.1)).setCell ⟨gF,0,none⟩ (.bool res.2)).drew):=((HP10.out.low.setCell (p:=⟨gX,0,none⟩) (by have:=HN0.out;show w.heap.size≤gX;omega) _).setCell (p:=⟨gF,0,none⟩) (by have:=HN0.out;show w.heap.size≤gF;omega) _).drew;(try simp only[Exit.inBlock,Exit.then]);refine bodyPost_ret (results_cc rfl _ rfl rfl Tryz.underlying3 rfl Tryz.underlying4 rfl (hbx.cell_ 0 (.int .i64 res.1) rfl) (hbf.cell_ 0 (.bool res.2) rfl)) rfl ?_;exact⟨rfl,hlo⟩
 ·have d0:decide (0≤c)=false:=decide_eq_false h0;have HRS:Hid (res=placeP vars ins out inn c inn.length negL (List.replicate inn.length false) (0,false)):=hid (by
   rw[HRES.out];unfold permutedP;rw[← HC.out,if_neg h0])
  clear h0;go_upto_region 7 with fail
  clear x8 d0;obtain⟨i0,hi0,hz0,hz1,hz2⟩:=info_parts Tryz.infoBool;have hmw:w4.heap.size≤w4.heap.size:=Nat.le_refl _;have hn25:=HN25.out;have x5:=HM4.out.p5.bi.cell_ 0 (.slice iA inn.length ic) rfl;go_wp2_with (at_make;refine wpList_make_full _ rfl _ _ 124 rfl w4.heap.size 4 i0 _ 1 Tryz.underlying124 hi0 hz0 hz1 .i64 .i64 inn.length inn.length inn.length rfl rfl rfl rfl (by rw[hz2];omega) (by unfold maxLen;omega) hmw ?_);intro w6 ho6 hg6;have hsz6:w4.heap.size < w6.heap.size:=(own_lt' ho6 rfl).1;rw[toList_madeCells_one] at ho6;have hb6:Below w4.heap.size w4 w6:=(Below.refl _ w4).grown hg6 (Nat.le_refl _) (by intro k hk;cases hk);obtain⟨ub,hub⟩:∃ g,g=w4.heap.size:=⟨_,rfl⟩
  rw[← hub] at ho6 hsz6;clear hg6 hi0 hz0 hz1 hz2 hmw x5 hn25;have ho6':OwnBl w6 w.heap.size (.slice (some ⟨ub,0,none⟩) inn.length inn.length) (List.replicate inn.length false):=by
   unfold OwnBl;rw[List.length_replicate,List.map_replicate];exact own_weak ho6 (by rw[hub];exact HM4.out.p5.low.size)
  have HO6:=hid ho6';have HM6:=hid (HM4.out.ext hb6);have HN6:Hid (gb < ub∧ub < w6.heap.size):=hid ⟨by rw[hub];exact HM4.out.bb.lt,hsz6⟩;go_upto_region 8 with fail
  rw[← hub];clear hub ho6 ho6' hb6 hsz6;obtain⟨gu,hgu⟩:∃ g,g=w6.heap.size:=⟨_,rfl⟩
  obtain⟨w7,hw7⟩:∃ W,W=w6.alloc (.cells #[.slice (some ⟨ub,0,none⟩) inn.length inn.length] 124):=⟨_,rfl⟩
  rw[← hgu,← hw7];have hb7:Below w6.heap.size w6 w7:=by rw[hw7];exact below_new _ _
  have hbu:Blk w7 gu 124 #[.slice (some ⟨ub,0,none⟩) inn.length inn.length]:=by rw[hw7,hgu];exact Blk.new _ _ _
  have HBU7:=hid hbu;have HM7:=hid (HM6.out.ext hb7);have ho7:OwnBl w7 w.heap.size (.slice (some ⟨ub,0,none⟩) inn.length inn.length) (List.replicate inn.length false):=own_below HO6.out hb7;have HO7:=hid ho7;have HN7:Hid (ub < gu∧gu < w7.heap.size):=hid ⟨by rw[hgu];exact HN6.out.2,hbu.lt⟩;clear hgu hw7 hb7 hbu ho7 HO6 HM6;go_upto_region 9 with fail
  obtain⟨gp,hgp⟩:∃ g,g=w7.heap.size:=⟨_,rfl⟩
  obtain⟨w8,hw8⟩:∃ W,W=w7.alloc (.cells #[.nilFunc] 125):=⟨_,rfl⟩
  rw[← hgp,← hw8];have hb8:Below w7.heap.size w7 w8:=by rw[hw8];exact below_new _ _
  have hbp:Blk w8 gp 125 #[.nilFunc]:=by rw[hw8,hgp];exact Blk.new _ _ _
  have q8:=hbp.cell_ 0 .nilFunc rfl;have f8:=hbp.frozen 0;have hb9:Below w7.heap.size w7 (w8.setCell ⟨gp,0,none⟩ (.func (.func 113) #[] #[.pointer (some ⟨gin,0,none⟩),.pointer (some ⟨gb,0,none⟩),.pointer (some ⟨gr,0,none⟩),.pointer (some ⟨gF,0,none⟩),.pointer (some ⟨gX,0,none⟩),.pointer (some ⟨gc,0,none⟩),.pointer (some ⟨gp,0,none⟩),.pointer (some ⟨gu,0,none⟩),.pointer (some ⟨gt,0,none⟩)])):=hb8.setCell (p:=⟨gp,0,none⟩) (by rw[hgp];exact Nat.le_refl _) _;have hbp9:=hbp.set_ 0 (.func (.func 113) #[] #[.pointer (some ⟨gin,0,none⟩),.pointer (some ⟨gb,0,none⟩),.pointer (some ⟨gr,0,none⟩),.pointer (some ⟨gF,0,none⟩),.pointer (some ⟨gX,0,none⟩),.pointer (some ⟨gc,0,none⟩),.pointer (some ⟨gp,0,none⟩),.pointer (some ⟨gu,0,none⟩),.pointer (some ⟨gt,0,none⟩)]);have HBP9:=hid hbp9;have HM9:=hid (HM7.out.ext hb9);have HBU9:=hid (mv HBU7.out hb9);have ho9:OwnBl (w8.setCell ⟨gp,0,none⟩ (.func (.func 113) #[] #[.pointer (some ⟨gin,0,none⟩),.pointer (some ⟨gb,0,none⟩),.pointer (some ⟨gr,0,none⟩),.pointer (some ⟨gF,0,none⟩),.pointer (some ⟨gX,0,none⟩),.pointer (some ⟨gc,0,none⟩),.pointer (some ⟨gp,0,none⟩),.pointer (some ⟨gu,0,none⟩),.pointer (some ⟨gt,0,none⟩)])) w.heap.size (.slice (some ⟨ub,0,none⟩) inn.length inn.length) (List.replicate inn.length false):=own_below HO7.out hb9;have HO9:=hid ho9;have HN8:Hid (gu < gp):=hid (by rw[hgp];exact HN7.out.2);clear hgp hw8 hb8 hbp hb9 hbp9 ho9 HO7 HM7 HBU7;go_upto_region 10 with fail
  clear q8 f8;obtain⟨w9,hw9⟩:∃ W,W=w8.setCell ⟨gp,0,none⟩ (.func (.func 113) #[] #[.pointer (some ⟨gin,0,none⟩),.pointer (some ⟨gb,0,none⟩),.pointer (some ⟨gr,0,none⟩),.pointer (some ⟨gF,0,none⟩),.pointer (some ⟨gX,0,none⟩),.pointer (some ⟨gc,0,none⟩),.pointer (some ⟨gp,0,none⟩),.pointer (some ⟨gu,0,none⟩),.pointer (some ⟨gt,0,none⟩)]):=⟨_,rfl⟩
  rw[← hw9] at HBP9 HM9 HBU9 HO9 ⊢;clear hw9;have hpls:PlS w gin gb gr gF gX gc gp gu gt g ub iA ic inn zA zc ins out c hA vA rA hc vc rc t negL (List.replicate inn.length false) (0,false) w9:=
   ⟨HM9.out.p5.low,HM9.out.p5.bi,HM9.out.bb,HM9.out.p5.br,HM9.out.bc,HBP9.out,HBU9.out,HM9.out.p5.bt,HM9.out.p5.bf,HM9.out.p5.bx,HM9.out.bd,HO9.out⟩
  have hpld:PlD w.heap.size gin gb gr gF gX gc gp gu gt g ub:=by
   have n0:=HN0.out;have n2:=HN2.out;have n3:=HN3.out;have n4:=HN4.out;have n6:=HN6.out;have n7:=HN7.out;have n8:=HN8.out;refine⟨fun x hx=>?_,fun x hx=>?_,?_⟩
   ·rcases hx with e | e | e | e <;> omega
   ·rcases hx with e | e | e | e <;> omega
   ·omega
  have hcall:=place_any w gin gb gr gF gX gc gp gu gt g ub iA ic inn zA zc ins out c hA vA rA hc vc rc t hpld HST.out HR.out.rz HR.out.ri HR.out.vrs HR.out.v40 HLL.out HN25.out HR.out.ez HR.out.eo inn.length negL (List.replicate inn.length false) (0,false) w9 (Nat.le_refl _) (by simp) NegOr.neg hpls;rw[← HVS.out,Nat.sub_self,← HRS.out] at hcall;have HCALL:=hid hcall;have y7:=HBP9.out.cell_ 0 _ rfl;clear hpls hpld hcall;go_wp2_with (go_at_call 113;refine HCALL.out.mono ?_;rintro e w10 ⟨rfl,hp10,hk10⟩;refine Hid.out ?_);refine hid ?_;have HP10:=hid hp10;clear hp10 hk10 y7 HCALL HM9 HBU9 HO9 HBP9;have z6:=HP10.out.bx.cell_ 0 (.int .i64 res.1) rfl;have z7:=HP10.out.bf.cell_ 0 (.bool res.2) rfl;have f6:=HP10.out.bx.frozen 0;have f7:=HP10.out.bf.frozen 0;have hfx:gX < gF:=by have:=HN0.out;omega
  go_upto_region 11 with fail
  go_region
  clear z6 z7 f6 f7;go_wp2;have hfx2:gF≠gX:=by omega
  have hbx:=((HP10.out.bx.set_ 0 (.int .i64 res.1)).far (p:=⟨gF,0,none⟩) hfx2.symm (.bool res.2)).drew;have hbf:=((HP10.out.bf.far (p:=⟨gX,0,none⟩) hfx2 (.int .i64 res.1)).set_ 0 (.bool res.2)).drew;have hlo:Below w.heap.size w (((w10.setCell ⟨gX,0,none⟩ (.int .i64 res.1)).setCell ⟨gF,0,none⟩ (.bool res.2)).drew):=((HP10.out.low.setCell (p:=⟨gX,0,none⟩) (by have:=HN0.out;show w.heap.size≤gX;omega) _).setCell (p:=⟨gF,0,none⟩) (by have:=HN0.out;show w.heap.size≤gF;omega) _).drew;(try simp only[Exit.inBlock,Exit.then]);refine bodyPost_ret (results_cc rfl _ rfl rfl Tryz.underlying3 rfl Tryz.underlying4 rfl (hbx.cell_ 0 (.int .i64 res.1) rfl) (hbf.cell_ 0 (.bool res.2) rfl)) rfl ?_;exact⟨rfl,hlo⟩
theorem symOk (s:Int):SymOk s:=.inr ⟨permOK,permRng⟩
end Go.Proofs.YtcmbdhopmncmnaaGreatDoor
