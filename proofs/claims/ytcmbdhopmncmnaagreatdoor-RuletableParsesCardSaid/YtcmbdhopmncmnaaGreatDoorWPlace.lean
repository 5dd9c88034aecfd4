/-
  texts Place: parts of the proof; conditions stand with each theorem.
-/
import Derived.Test.YtcmbdhopmncmnaaGreatDoorWG5
namespace Go.Proofs.YtcmbdhopmncmnaaGreatDoor
open Lib(hid)
open Go.RowKit Go.Maps
set_option maxRecDepth 100000
set_option linter.unusedVariables false
set_option linter.unusedSimpArgs false
structure PlJ (V:World)(g:Nat)(tv:Value)(gr:Nat)(zb:Nat)(zo:Nat)(zn:Nat)(zc:Nat)(i:Nat)(ee:Int)(ss:Nat)(ok:Bool)(fv:Bool)(bb:List Int)(b0 b1 b2 b3 b4 b5 b6 b7 b8 b9 b10 b11 b12 b13:Bool)(v67 v68 v69 v70 v71 v72 v73 v74 v75 v66 v76 v77 v15 v16:Value)(w:World):Prop where
 h0:b0=true→v67=.pointer (some ⟨g,0,none⟩)
 h1:b1=true→v68=tv
 h2:b2=true→v69=.pointer (some ⟨gr,0,none⟩)
 h3:b3=true→v70=.slice (some ⟨zb,zo,none⟩) zn zc
 h4:b4=true→v71=.int .i64 (i:Int)
 h5:b5=true→v72=.pointer (some ⟨zb,zo+i,none⟩)
 h6:b6=true→v73=.int .i64 ee
 h7:b7=true→v74=.int .i64 (ss:Int)
 h8:b8=true→v75=.tuple #[.bool ok,.bool fv]
 h9:b9=true→v66=.tuple #[.bool ok,.bool fv]
 h10:b10=true→v76=.bool ok
 h11:b11=true→v77=.bool fv
 h12:b12=true→v15=.bool ok
 h13:b13=true→v16=.bool fv
 wa:b8=false→w=V.drew
 wd:b8=true→BindB w g bb∧Kept (fun x=>x=g) V.drew w
 o3:b3=true→b2=true
 o5:b5=true→b3=true∧b4=true
 o6:b6=true→b5=true
 o8:b8=true→b0=true∧b1=true∧b6=true∧b7=true
 o9:b9=true→b8=true
 o10:b10=true→b9=true
 o11:b11=true→b9=true
 o12:b12=true→b10=true
 o13:b13=true→b11=true∧b12=true
theorem ifC {a b:Int}(h:a=b):(a == b)=true:=by simp[h]
set_option maxHeartbeats 16000000 in
theorem place_any (W0:World)(gin gb gr gF gX gc gp gu gt g ub:Nat)(iA:Option Addr)(ic:Nat)(inn:List Int)(zA:Option Addr)(zc:Nat)(ins:List Int)(out c:Int)(hA vA rA:Option Addr)(hc vc rc:Nat)(t:TabH)(hd:PlD W0.heap.size gin gb gr gF gX gc gp gu gt g ub)(hst:∀ s ∈ inn,0≤s∧s < 8)(hz:Ints W0 zA ins)(hi:Ints W0 iA inn)(hV:Vrs W0 vA t.vs)(h40:t.vs.length≤40)(hl:ins.length=inn.length)(h25:inn.length≤25)(he:∀ e ∈ ins,ElOk t.vs.length e)(ho:ElOk t.vs.length out) :
  ∀ (L:Nat) (bs:List Int) (used:List Bool) (r:Int × Bool) (w:World),L≤inn.length→used.length=inn.length→NegOr bs→PlS W0 gin gb gr gF gX gc gp gu gt g ub iA ic inn zA zc ins out c hA vA rA hc vc rc t bs used r w→
  Calls Tryz.prog 113 #[.int .i64 ((inn.length - L:Nat):Int),.pointer (some ⟨gin,0,none⟩),.pointer (some ⟨gb,0,none⟩),.pointer (some ⟨gr,0,none⟩),.pointer (some ⟨gF,0,none⟩),.pointer (some ⟨gX,0,none⟩),.pointer (some ⟨gc,0,none⟩),.pointer (some ⟨gp,0,none⟩),.pointer (some ⟨gu,0,none⟩),.pointer (some ⟨gt,0,none⟩)] w fun e w'=>e=.returned (.tuple #[])∧PlS W0 gin gb gr gF gX gc gp gu gt g ub iA ic inn zA zc ins out c hA vA rA hc vc rc t bs used (placeP (t.vs.map Vh.zs) ins out inn c L bs used r) w'∧Kept (PlT gF gX g ub) w w':=by
 obtain⟨vars,hvars⟩:∃ v,v=t.vs.map Vh.zs:=⟨_,rfl⟩
 rw[← hvars];have HVS:=hid hvars;have HD:=hid hd;have HZ:=hid (And.intro hz (And.intro hi hl));have HE:=hid (And.intro he (And.intro ho (And.intro hV h40)));have HST:=hid hst;have H25:=hid h25;clear hd hz hi hV h40 he ho hst hvars;intro L;induction L with
 | zero=>
  intro bs used r w hL hu hn hP;have HP:=hid hP;have HCALL:=hid (out_any g zA ins.length zc bs out w hP.bd (fun h=>Nat.lt_of_lt_of_le (HE.out.2.1.1 h) HE.out.2.2.2) HE.out.2.1.2);obtain⟨n,hn'⟩:∃ n,n=outP bs out:=⟨_,rfl⟩
  have HPL:Hid (placeP vars ins out inn c 0 bs used r=better r n):=hid (by rw[hn'];rfl);rw[← hn'] at HCALL;rw[Nat.sub_zero];obtain⟨r1,r2⟩:=r;clear hL hu hn hn' hP hl;have y1:=HP.out.bi.cell_ 0 (.slice iA inn.length ic) rfl;have y2:=HP.out.bb.cell_ 0 (.pointer (some ⟨g,0,none⟩)) rfl;have y3:=HP.out.br.cell_ 0 (.slice zA ins.length zc) rfl;have y3b:=HP.out.br.cell_ 1 (.int .i64 out) rfl;have y6:=HP.out.bc.cell_ 0 (.int .i64 c) rfl;have y8:=HP.out.bu.cell_ 0 (.slice (some ⟨ub,0,none⟩) inn.length inn.length) rfl;go_enter Tryz.func113,Tryz.ntmps113;go_wp2_with (go_at_call 114;refine HCALL.out.mono ?_;rintro e w1 ⟨rfl,hb1⟩;refine Hid.out ?_);refine hid ?_;have HB1:=hid hb1;have HP1:=hid (HP.out.same HD.out hb1);clear y1 y2 y3 y3b y6 y8;clear hb1;have z4:=HP1.out.bf.cell_ 0 (.bool r2) rfl;have z5:=HP1.out.bx.cell_ 0 (.int .i64 r1) rfl;have f4:=HP1.out.bf.frozen 0;have f5:=HP1.out.bx.frozen 0;have HK1:Hid (Kept (PlT gF gX g ub) w w1):=hid (Kept.of_new _ HB1.out);have HP2:=hid (HP1.out.found HD.out n);have HK2:Hid (Kept (PlT gF gX g ub) w ((w1.setCell ⟨gX,0,none⟩ (.int .i64 n)).setCell ⟨gF,0,none⟩ (.bool true))):=hid ((HK1.out.setCell (p:=⟨gX,0,none⟩) (.inl (.inr (.inr (.inr rfl)))) _).setCell (p:=⟨gF,0,none⟩) (.inl (.inr (.inr (.inl rfl)))) _);have hne:=HD.out.df.2.2.2.2.2;cases r2 with
  | false=>
   have HF:Hid (better (r1,false) n=(n,true)):=hid rfl;go_wp2;(try simp only[Exit.inBlock,Exit.then]);refine bodyPost_ret (results_none rfl _ _ _) rfl ?_;exact⟨rfl,by rw[HPL.out,HF.out];exact HP2.out,HK2.out⟩
  | true=>
   by_cases hlt:n < r1
   ·have HF:Hid (better (r1,true) n=(n,true)):=hid (if_pos (.inr hlt));have d0:decide (n < r1)=true:=decide_eq_true hlt;go_wp2;(try simp only[Exit.inBlock,Exit.then]);refine bodyPost_ret (results_none rfl _ _ _) rfl ?_;exact⟨rfl,by rw[HPL.out,HF.out];exact HP2.out,HK2.out⟩
   ·have HF:Hid (better (r1,true) n=(r1,true)):=hid (if_neg (by rintro (h | h);cases h;exact hlt h));have d0:decide (n < r1)=false:=decide_eq_false hlt;go_wp2;(try simp only[Exit.inBlock,Exit.then]);refine bodyPost_ret (results_none rfl _ _ _) rfl ?_;exact⟨rfl,by rw[HPL.out,HF.out];exact HP1.out,HK1.out⟩
 | succ L ih=>
  intro bs used r w hL hu hn hP;have HP:=hid hP;have HU:=hid (And.intro hu hn);have HIH:=hid ih;obtain⟨i,hii⟩:∃ i,i=inn.length - (L+1):=⟨_,rfl⟩
  rw[← hii];have hil:i < inn.length:=by omega
  have hi1:inn.length - L=i+1:=by omega
  have HII:=hid (And.intro hii (And.intro hi1 hil));have hwi:wrap64 ((i:Int)+1)=((i+1:Nat):Int):=by unfold wrap64;omega
  have d0:((i:Int) == (inn.length:Int))=false:=by simp;omega
  clear hL hu hn ih hP hii hi1 hl;have y1:=HP.out.bi.cell_ 0 (.slice iA inn.length ic) rfl;have y2:=HP.out.bb.cell_ 0 (.pointer (some ⟨g,0,none⟩)) rfl;have y3:=HP.out.br.cell_ 0 (.slice zA ins.length zc) rfl;have y3b:=HP.out.br.cell_ 1 (.int .i64 out) rfl;have y6:=HP.out.bc.cell_ 0 (.int .i64 c) rfl;have y8:=HP.out.bu.cell_ 0 (.slice (some ⟨ub,0,none⟩) inn.length inn.length) rfl;by_cases hc:(i:Int)=c
  ·have d1:((i:Int) == c)=true:=ifC hc;have HPL:Hid (placeP vars ins out inn c (L+1) bs used r=placeP vars ins out inn c L bs used r):=hid (by rw[placeP,← HII.out.1,if_pos hc]);have HCALL:=hid (HIH.out bs used r w (by have:=HII.out;omega) HU.out.1 HU.out.2 HP.out);rw[HII.out.2.1] at HCALL;have y7:=HP.out.bp.cell_ 0 _ rfl;subst hc;go_enter Tryz.func113,Tryz.ntmps113;go_wp2_with (go_at_call 113;refine HCALL.out.mono ?_;rintro e w1 ⟨rfl,hp1,hk1⟩;refine Hid.out ?_);refine hid ?_;have HP1:=hid hp1;have HK1:=hid hk1;clear hp1 hk1 y7;clear y1 y2 y3 y3b y6 y8;go_wp2;(try simp only[Exit.inBlock,Exit.then]);refine bodyPost_ret (results_none rfl _ _ _) rfl ?_;exact⟨rfl,by rw[HPL.out];exact HP1.out,HK1.out⟩
  ·have d1:((i:Int) == c)=false:=beq_false_of_ne hc;obtain⟨e,hee⟩:∃ e,e=ins.getD i 0:=⟨_,rfl⟩
   have HPL:Hid (placeP vars ins out inn c (L+1) bs used r=(plTo vars ins out inn c L bs used e r inn.length).2):=hid (by
    rw[placeP_succ (by rw[← HII.out.1];exact hc),hee,HII.out.1])
   have HEE:=hid hee;clear hc hee;go_enter Tryz.func113,Tryz.ntmps113;go_wp2;clear y1 y2 y3 y3b y6 y8;go_loopw [12,41] (fun tv kv wr=>∃ k:Nat,k≤inn.length∧kv=.int .i64 k∧tv=.int .i64 ((mskL (plTo vars ins out inn c L bs used e r k).1:Nat):Int)∧Hid (PlS W0 gin gb gr gF gX gc gp gu gt g ub iA ic inn zA zc ins out c hA vA rA hc vc rc t bs used (plTo vars ins out inn c L bs used e r k).2 wr)∧Hid (Kept (PlT gF gX g ub) w wr)) (fun _ kv _=>inn.length - (intOf kv).toNat)
   case atStart=>exact⟨0,Nat.zero_le _,rfl,rfl,HP,hid (Kept.refl _ _)⟩
   case round=>
    obtain⟨k,hk,rfl,rfl,HPR,HKR⟩:=hrel;obtain⟨x,hx⟩:∃ x,x=plTo vars ins out inn c L bs used e r k:=⟨_,rfl⟩
    rw[← hx] at HPR ⊢;have HXX:=hid hx;by_cases hkl:k < inn.length
    ·have hwk:wrap64 ((k:Int)+1)=(k:Int)+1:=by have:=H25.out;unfold wrap64;omega
     have HWK:=hid hwk;have hmem:∀ s ∈ x.1,0≤s∧s < 8:=by rw[hx];exact plTo_mem HST.out k hk
     have hm256:=msk_lt hmem;have hrow:=HZ.out.2.1.ext HPR.out.low;obtain⟨ib,io,ei,-,hci⟩:=hrow.at_ hkl;have hsr:=HST.out inn[k] (List.getElem_mem hkl);have hg:inn.getD k 0=inn[k]:=by rw[List.getD_eq_getElem?_getD,List.getElem?_eq_getElem hkl];rfl
     obtain⟨s,hs⟩:∃ s:Nat,inn[k]=(s:Int):=⟨inn[k].toNat,by omega⟩
     have hs8:s < 8:=by omega
     rw[hs] at hci hg;have hbm:=msk_mem hmem s;have hsh:=shrP hm256 s;obtain⟨m,hm⟩:∃ m,m=mskL x.1:=⟨_,rfl⟩
     rw[← hm] at hm256 hbm hsh ⊢;have HM:=hid (And.intro hm (And.intro hm256 hs8));have HG:=hid hg;have HBM:=hid hbm;have HSH:=hid hsh;have HMEM:=hid hmem;subst ei;have HK:=hid hkl;clear hk hwk hx hmem hm256 hrow hsr hs hs8 hbm hsh hm hg;have y1:=HPR.out.bi.cell_ 0 (.slice (some ⟨ib,io,none⟩) inn.length ic) rfl;have y2:=HPR.out.bb.cell_ 0 (.pointer (some ⟨g,0,none⟩)) rfl;have y3:=HPR.out.br.cell_ 0 (.slice zA ins.length zc) rfl;have y3b:=HPR.out.br.cell_ 1 (.int .i64 out) rfl;have y6:=HPR.out.bc.cell_ 0 (.int .i64 c) rfl;have y8:=HPR.out.bu.cell_ 0 (.slice (some ⟨ub,0,none⟩) inn.length inn.length) rfl;obtain⟨y9,f9⟩:=HPR.out.us.cellk (k:=k) (by rw[HU.out.1];exact HK.out);by_cases hkc:(k:Int)=c
     ·have d2:((k:Int) == c)=true:=ifC hkc;have hx1:plTo vars ins out inn c L bs used e r (k+1)=x:=by rw[plTo_succ,← HXX.out];exact if_pos (.inl hkc)
      have HX1:=hid hx1;have HPN:Hid (PlS W0 gin gb gr gF gX gc gp gu gt g ub (some ⟨ib,io,none⟩) ic inn zA zc ins out c hA vA rA hc vc rc t bs used (plTo vars ins out inn c L bs used e r (k+1)).2 wr):=hid (by rw[HX1.out];exact HPR.out);have HKN:=HKR;clear hx1 hkc;go_wp2;go_roundw
      case rel=>exact⟨k+1,HK.out,(by first | rfl | (rw[HWK.out];rfl)),(by first | rfl | (rw[HX1.out];rfl) | (rw[HX1.out,← HM.out.1];done)),HPN,HKN⟩
      case measure=>(try rw[HWK.out]);exact meas_step HK.out
     ·have d2:((k:Int) == c)=false:=beq_false_of_ne hkc;cases hub:used.getD k false with
      | true=>
       rw[hub] at y9;have hx1:plTo vars ins out inn c L bs used e r (k+1)=x:=by rw[plTo_succ,← HXX.out];exact if_pos (.inr (.inl hub))
       have HX1:=hid hx1;have HPN:Hid (PlS W0 gin gb gr gF gX gc gp gu gt g ub (some ⟨ib,io,none⟩) ic inn zA zc ins out c hA vA rA hc vc rc t bs used (plTo vars ins out inn c L bs used e r (k+1)).2 wr):=hid (by rw[HX1.out];exact HPR.out);have HKN:=HKR;clear hx1 hkc;go_wp2;go_roundw
       case rel=>exact⟨k+1,HK.out,(by first | rfl | (rw[HWK.out];rfl)),(by first | rfl | (rw[HX1.out];rfl) | (rw[HX1.out,← HM.out.1];done)),HPN,HKN⟩
       case measure=>(try rw[HWK.out]);exact meas_step HK.out
      | false=>
       rw[hub] at y9;by_cases hin:(s:Int) ∈ x.1
       ·have hmin:min s 64=s:=by have:=HM.out.2.2;omega
        have d3:bits .and .i64 ((m:Int) / 2 ^ s) 1=1:=by rw[HSH.out,if_pos (HBM.out.2 hin)]
        have hx1:plTo vars ins out inn c L bs used e r (k+1)=x:=by rw[plTo_succ,← HXX.out];exact if_pos (.inr (.inr (by rw[HG.out];exact hin)))
        have HX1:=hid hx1;have HPN:Hid (PlS W0 gin gb gr gF gX gc gp gu gt g ub (some ⟨ib,io,none⟩) ic inn zA zc ins out c hA vA rA hc vc rc t bs used (plTo vars ins out inn c L bs used e r (k+1)).2 wr):=hid (by rw[HX1.out];exact HPR.out);have HKN:=HKR;clear hx1 hkc hin hub;go_wp2;go_roundw
        case rel=>exact⟨k+1,HK.out,(by first | rfl | (rw[HWK.out];rfl)),(by first | rfl | (rw[HX1.out];rfl) | (rw[HX1.out,← HM.out.1];done)),HPN,HKN⟩
        case measure=>(try rw[HWK.out]);exact meas_step HK.out
       ·have d3:bits .and .i64 ((m:Int) / 2 ^ s) 1=0:=by rw[HSH.out,if_neg (fun h=>hin (HBM.out.1 h))]
        have hor:=orP m HM.out.2.1 s HM.out.2.2;have hsw:wrap64 (2 ^ s)=2 ^ s:=wrapP s HM.out.2.2;have hsw1:wrap64 (1*2 ^ s)=2 ^ s:=by rw[Int.one_mul];exact hsw
        have hmin:min s 64=s:=by have:=HM.out.2.2;omega
        have hx1:plTo vars ins out inn c L bs used e r (k+1)=plStep vars ins out inn c L bs used e x k:=by rw[plTo_succ,← HXX.out]
        have hst:plStep vars ins out inn c L bs used e x k=((s:Int) :: x.1,if (acceptP vars bs e (s:Int)).1=true then placeP vars ins out inn c L (acceptP vars bs e (s:Int)).2.2 (used.set k true) x.2 else x.2):=by
         unfold plStep;rw[HG.out,if_neg (by rintro (h | h | h);exact hkc h;rw[hub] at h;cases h;exact hin h)]
        have HST1:=hid (hx1.trans hst);have HMS:Hid (mskL ((s:Int) :: x.1)=m ||| 2 ^ s):=hid (by rw[HM.out.1];rfl);have HUB:=hid hub;clear hx1 hst hin hub hkc;go_upto_region 12 with fail
        have hz0:=HZ.out.1.ext HPR.out.low;obtain⟨zb,zo,ez,-,hcz⟩:=hz0.at_ (k:=i) (by rw[HZ.out.2.2];exact HII.out.2.2);have hil2:i < ins.length:=by rw[HZ.out.2.2];exact HII.out.2.2
        have hge:e=ins[i]'hil2:=by rw[HEE.out,List.getD_eq_getElem?_getD,List.getElem?_eq_getElem hil2];rfl
        rw[← hge] at hcz;have hel:=HE.out.1 (ins[i]'hil2) (List.getElem_mem hil2);rw[← hge] at hel;have HEL:=hid hel;subst ez;have HCZ:=hid hcz;have HVW:Hid (Vrs wr vA t.vs):=hid (HE.out.2.2.1.ext HPR.out.low);have hcall:=fun (W:World) (hW:BindB W g bs) (hV2:Vrs W vA t.vs)=>accept_any g hA hc vA vc rA rc t bs e (s:Int) W hW hV2 HEL.out.1 HE.out.2.2.2 HEL.out.2;rw[← HVS.out] at hcall;unfold tabV at hcall;obtain⟨ok,hok⟩:∃ x,x=(acceptP vars bs e (s:Int)).1:=⟨_,rfl⟩
        obtain⟨fv,hfv⟩:∃ x,x=(acceptP vars bs e (s:Int)).2.1:=⟨_,rfl⟩
        obtain⟨b',hb'⟩:∃ x,x=(acceptP vars bs e (s:Int)).2.2:=⟨_,rfl⟩
        have hcs:(ok=false∧fv=false∧b'=bs)∨(ok=true∧fv=false∧b'=bs)∨(ok=true∧fv=true∧e < 0∧bs.getD (-1 - e).toNat 0 < 0∧b'=bs.set (-1 - e).toNat (s:Int)):=by
         rw[hok,hfv,hb'];rcases acceptP_cases vars bs e (s:Int) with h | h | ⟨h1,h2,h⟩
         ·rw[h];exact .inl ⟨rfl,rfl,rfl⟩
         ·rw[h];exact .inr (.inl ⟨rfl,rfl,rfl⟩)
         ·rw[h];exact .inr (.inr ⟨rfl,rfl,h1,Int.not_le.1 h2,rfl⟩)
        have HCS:=hid hcs;rw[← hok,← hb'] at HST1;rw[← hok,← hfv,← hb'] at hcall;have HCALL:=hid hcall;clear hz0 hge hel hok hfv hb' hcall hcs hcz d3 hor hsw hsw1 hmin f9;refine wp_region_J (by kernel_rfl) (fun listed act w'=>∃ b0 b1 b2 b3 b4 b5 b6 b7 b8 b9 b10 b11 b12 b13 v67 v68 v69 v70 v71 v72 v73 v74 v75 v66 v76 v77 v15 v16,listed=#[b0,b1,b2,b3,b4,b5,b6,b7,b8,b9,b10,b11,b12,b13]∧act=Act.mk #[.int .i64 ↑i,.pointer (some ⟨gin,0,none⟩),.pointer (some ⟨gb,0,none⟩),.pointer (some ⟨gr,0,none⟩),.pointer (some ⟨gF,0,none⟩),.pointer (some ⟨gX,0,none⟩),.pointer (some ⟨gc,0,none⟩),.pointer (some ⟨gp,0,none⟩),.pointer (some ⟨gu,0,none⟩),.pointer (some ⟨gt,0,none⟩),undef,undef,.int .i64 ↑(m ||| 2 ^ s),.int .i64 ↑k,.int .i64 ↑s,v15,v16,.int .i64 ↑i,.slice (some ⟨ib,io,none⟩) inn.length ic,.int .i64 ↑inn.length,.bool false,undef,undef,undef,undef,undef,undef,undef,undef,undef,undef,undef,.int .i64 ↑i,.int .i64 c,.bool false,undef,undef,undef,undef,.slice (some ⟨ib,io,none⟩) inn.length ic,.int .i64 ↑inn.length,.int .i64 ↑k,.bool true,.int .i64 ↑k,.pointer (some ⟨ib,io+k,none⟩),.int .i64 ↑s,.int .i64 ↑k,.int .i64 c,.bool false,.bool false,.slice (some ⟨ub,0,none⟩) inn.length inn.length,.int .i64 ↑k,.pointer (some ⟨ub,k,none⟩),.bool false,.bool false,.bool false,.int .i64 ↑m,.int .i64 ↑s,.int .i64 (↑m / 2 ^ s),.int .i64 0,.bool false,.bool false,.int .i64 ↑m,.int .i64 ↑s,.int .i64 (wrap64 (2 ^ s)),.int .i64 ↑(m ||| 2 ^ s),v66,v67,v68,v69,v70,v71,v72,v73,v74,v75,v76,v77,u78,u79,u80,u81,u82,u83,u84,u85,u86,u87,u88,u89,u90,u91,u92,u93,u94,u95,u96,u97,u98,u99] []∧PlJ wr (g) (.agg #[.int .i64 t.st,.int .i64 t.sym,.slice hA t.hood.length hc,.slice vA t.vs.length vc,.slice rA t.rs.length rc]) (gr) (zb) (zo) (ins.length) (zc) (i) (e) (s) (ok) (fv) (b') b0 b1 b2 b3 b4 b5 b6 b7 b8 b9 b10 b11 b12 b13 v67 v68 v69 v70 v71 v72 v73 v74 v75 v66 v76 v77 v15 v16 w') ?_ ?_ ?_
        ·exact (e_8 (e_8 (e_8 (e_4 ⟨rfl,rfl,(by constructor;(case wa=>exact (fun _=>rfl));all_goals simp)⟩))))
        ·rintro i listed act w' hi ⟨b0,b1,b2,b3,b4,b5,b6,b7,b8,b9,b10,b11,b12,b13,v67,v68,v69,v70,v71,v72,v73,v74,v75,v66,v76,v77,v15,v16,rfl,rfl,H⟩;have hi16:i < 14:=by
          obtain⟨-,o,ho,-⟩:=mem_ready.1 hi;exact (Array.getElem?_eq_some_iff.1 ho).1
         obtain rfl | rfl | rfl | rfl | rfl | rfl | rfl | rfl | rfl | rfl | rfl | rfl | rfl | rfl:i=0∨i=1∨i=2∨i=3∨i=4∨i=5∨i=6∨i=7∨i=8∨i=9∨i=10∨i=11∨i=12∨i=13:=by omega
         all_goals simp[mem_ready,Region.binds] at hi
         ·have bcf:b8=false:=by
           cases hb:b8 with
           | false=>rfl
           | true=>exact absurd (H.o8 hb).1 (by simp[hi])
          obtain rfl:=H.wa bcf;have BCF:=hid bcf;clear bcf;have cc:(World.drew wr).cell? ⟨gb,0,none⟩=some (.pointer (some ⟨g,0,none⟩)):=HPR.out.bb.cell_ 0 _ rfl;refine wpOp_hidden rfl fun K hK=>?_;go_wp2;refine OnlyN.mk (hK.out _ _ (e_8 (e_8 (e_8 (e_4 ⟨rfl,rfl,{ H with h0:=fun _=>rfl,o8:=fun h=>⟨rfl,(H.o8 h).2.1,(H.o8 h).2.2.1,(H.o8 h).2.2.2⟩ }⟩)))))
         ·have bcf:b8=false:=by
           cases hb:b8 with
           | false=>rfl
           | true=>exact absurd (H.o8 hb).2.1 (by simp[hi])
          obtain rfl:=H.wa bcf;have BCF:=hid bcf;clear bcf;have hcc:Blk (World.drew wr) gt 26 #[.int .i64 t.st,.int .i64 t.sym,.slice hA t.hood.length hc,.slice vA t.vs.length vc,.slice rA t.rs.length rc]:=HPR.out.bt;have cc0:=hcc.cell_ 0 (.int .i64 t.st) rfl;have cc1:=hcc.cell_ 1 (.int .i64 t.sym) rfl;have cc2:=hcc.cell_ 2 (.slice hA t.hood.length hc) rfl;have cc3:=hcc.cell_ 3 (.slice vA t.vs.length vc) rfl;have cc4:=hcc.cell_ 4 (.slice rA t.rs.length rc) rfl;clear hcc;refine wpOp_hidden rfl fun K hK=>?_;go_wp2;refine OnlyN.mk (hK.out _ _ (e_8 (e_8 (e_8 (e_4 ⟨rfl,rfl,{ H with h1:=fun _=>rfl,o8:=fun h=>⟨(H.o8 h).1,rfl,(H.o8 h).2.2.1,(H.o8 h).2.2.2⟩ }⟩)))))
         ·refine wpOp_hidden rfl fun K hK=>?_;go_wp2;refine OnlyN.mk (hK.out _ _ (e_8 (e_8 (e_8 (e_4 ⟨rfl,rfl,{ H with h2:=fun _=>rfl,o3:=fun h=>rfl }⟩)))))
         ·obtain rfl:=H.h2 (by simp[hi]);have bcf:b8=false:=by
           cases hb:b8 with
           | false=>rfl
           | true=>exact absurd (H.o5 (H.o6 (H.o8 hb).2.2.1)).1 (by simp[hi])
          obtain rfl:=H.wa bcf;have BCF:=hid bcf;clear bcf;have cc:(World.drew wr).cell? ⟨gr,0,none⟩=some (.slice (some ⟨zb,zo,none⟩) ins.length zc):=HPR.out.br.cell_ 0 _ rfl;refine wpOp_hidden rfl fun K hK=>?_;go_wp2;refine OnlyN.mk (hK.out _ _ (e_8 (e_8 (e_8 (e_4 ⟨rfl,rfl,{ H with h3:=fun _=>rfl,o3:=fun _=>(by simp[hi]),o5:=fun h=>⟨rfl,(H.o5 h).2⟩ }⟩)))))
         ·refine wpOp_hidden rfl fun K hK=>?_;go_wp2;refine OnlyN.mk (hK.out _ _ (e_8 (e_8 (e_8 (e_4 ⟨rfl,rfl,{ H with h4:=fun _=>rfl,o5:=fun h=>⟨(H.o5 h).1,rfl⟩ }⟩)))))
         ·obtain rfl:=H.h3 (by simp[hi]);obtain rfl:=H.h4 (by simp[hi]);refine wpOp_hidden rfl fun K hK=>?_;go_wp2;refine OnlyN.mk (hK.out _ _ (e_8 (e_8 (e_8 (e_4 ⟨rfl,rfl,{ H with h5:=fun _=>rfl,o5:=fun _=>(by simp[hi]),o6:=fun h=>rfl }⟩)))))
         ·obtain rfl:=H.h5 (by simp[hi]);have bcf:b8=false:=by
           cases hb:b8 with
           | false=>rfl
           | true=>exact absurd (H.o8 hb).2.2.1 (by simp[hi])
          obtain rfl:=H.wa bcf;have BCF:=hid bcf;clear bcf;have cc:(World.drew wr).cell? ⟨zb,zo+i,none⟩=some (.int .i64 e):=HCZ.out;refine wpOp_hidden rfl fun K hK=>?_;go_wp2;refine OnlyN.mk (hK.out _ _ (e_8 (e_8 (e_8 (e_4 ⟨rfl,rfl,{ H with h6:=fun _=>rfl,o6:=fun _=>(by simp[hi]),o8:=fun h=>⟨(H.o8 h).1,(H.o8 h).2.1,rfl,(H.o8 h).2.2.2⟩ }⟩)))))
         ·refine wpOp_hidden rfl fun K hK=>?_;go_wp2;refine OnlyN.mk (hK.out _ _ (e_8 (e_8 (e_8 (e_4 ⟨rfl,rfl,{ H with h7:=fun _=>rfl,o8:=fun h=>⟨(H.o8 h).1,(H.o8 h).2.1,(H.o8 h).2.2.1,rfl⟩ }⟩)))))
         ·obtain rfl:=H.h0 (by simp[hi]);obtain rfl:=H.h1 (by simp[hi]);obtain rfl:=H.h6 (by simp[hi]);obtain rfl:=H.h7 (by simp[hi]);obtain rfl:=H.wa (by simp[hi]);refine wpOp_hidden rfl fun K hK=>?_;have hB7:BindB (World.drew wr) g bs:=HPR.out.bd.ext (Below.refl _ wr).drew;have hcall7:=HCALL.out (World.drew wr) hB7 (HVW.out.ext (Below.refl _ wr).drew);have HC7:=hid hcall7;clear hcall7 hB7;go_wp2_with (go_at_call 112;refine HC7.out.mono ?_;rintro en w9 ⟨rfl,hb9,hk9⟩;refine Hid.out ?_);refine hid ?_;have HB9:=hid hb9;have HK9:=hid hk9;clear hb9 hk9 HC7;go_wp2;refine OnlyN.mk (hK.out _ _ (e_8 (e_8 (e_8 (e_4 ⟨rfl,rfl,{ H with h8:=fun _=>rfl,wa:=fun h=>(by cases h),wd:=fun _=>⟨HB9.out,HK9.out⟩,o8:=fun _=>(by simp[hi]),o9:=fun h=>rfl }⟩)))))
         ·obtain rfl:=H.h8 (by simp[hi]);refine wpOp_hidden rfl fun K hK=>?_;go_wp2;refine OnlyN.mk (hK.out _ _ (e_8 (e_8 (e_8 (e_4 ⟨rfl,rfl,{ H with h9:=fun _=>rfl,o9:=fun _=>(by simp[hi]),o10:=fun h=>rfl,o11:=fun h=>rfl }⟩)))))
         ·obtain rfl:=H.h9 (by simp[hi]);refine wpOp_hidden rfl fun K hK=>?_;go_wp2;refine OnlyN.mk (hK.out _ _ (e_8 (e_8 (e_8 (e_4 ⟨rfl,rfl,{ H with h10:=fun _=>rfl,o10:=fun _=>(by simp[hi]),o12:=fun h=>rfl }⟩)))))
         ·obtain rfl:=H.h9 (by simp[hi]);refine wpOp_hidden rfl fun K hK=>?_;go_wp2;refine OnlyN.mk (hK.out _ _ (e_8 (e_8 (e_8 (e_4 ⟨rfl,rfl,{ H with h11:=fun _=>rfl,o11:=fun _=>(by simp[hi]),o13:=fun h=>⟨rfl,(H.o13 h).2⟩ }⟩)))))
         ·obtain rfl:=H.h10 (by simp[hi]);refine wpOp_hidden rfl fun K hK=>?_;go_wp2;refine OnlyN.mk (hK.out _ _ (e_8 (e_8 (e_8 (e_4 ⟨rfl,rfl,{ H with h12:=fun _=>rfl,o12:=fun _=>(by simp[hi]),o13:=fun h=>⟨(H.o13 h).1,rfl⟩ }⟩)))))
         ·obtain rfl:=H.h11 (by simp[hi]);obtain rfl:=H.h12 (by simp[hi]);refine wpOp_hidden rfl fun K hK=>?_;go_wp2;refine OnlyN.mk (hK.out _ _ (e_8 (e_8 (e_8 (e_4 ⟨rfl,rfl,{ H with h13:=fun _=>rfl,o13:=fun _=>(by simp[hi]) }⟩)))))
        ·rintro listed act w' hr ⟨b0,b1,b2,b3,b4,b5,b6,b7,b8,b9,b10,b11,b12,b13,v67,v68,v69,v70,v71,v72,v73,v74,v75,v66,v76,v77,v15,v16,rfl,rfl,H⟩;have hn:=List.eq_nil_iff_forall_not_mem.1 hr;have r0:=hn 0;simp[mem_ready,Region.binds] at r0;subst r0;have r1:=hn 1;simp[mem_ready,Region.binds] at r1;subst r1;have r2:=hn 2;simp[mem_ready,Region.binds] at r2;subst r2;have r3:=hn 3;simp[mem_ready,Region.binds] at r3;subst r3;have r4:=hn 4;simp[mem_ready,Region.binds] at r4;subst r4;have r5:=hn 5;simp[mem_ready,Region.binds] at r5;subst r5;have r6:=hn 6;simp[mem_ready,Region.binds] at r6;subst r6;have r7:=hn 7;simp[mem_ready,Region.binds] at r7;subst r7;have r8:=hn 8;simp[mem_ready,Region.binds] at r8;subst r8;have r9:=hn 9;simp[mem_ready,Region.binds] at r9;subst r9;have r10:=hn 10;simp[mem_ready,Region.binds] at r10;subst r10;have r11:=hn 11;simp[mem_ready,Region.binds] at r11;subst r11;have r12:=hn 12;simp[mem_ready,Region.binds] at r12;subst r12;have r13:=hn 13;simp[mem_ready,Region.binds] at r13;subst r13;try dsimp only
         obtain⟨hb9,hk9⟩:=H.wd rfl;obtain rfl:=H.h12 rfl;obtain rfl:=H.h13 rfl;obtain⟨w6,rfl⟩:∃ w6:World,w6=w':=⟨_,rfl⟩
         have HPA:Hid (PlS W0 gin gb gr gF gX gc gp gu gt g ub (some ⟨ib,io,none⟩) ic inn (some ⟨zb,zo,none⟩) zc ins out c hA vA rA hc vc rc t b' used x.2 w6):=hid ((HPR.out.same HD.out (Below.refl _ wr).drew).bind HD.out hk9 hb9);have HKA:Hid (Kept (PlT gF gX g ub) w w6):=hid (HKR.out.drew.trans (hk9.mono (fun x _ e=>.inl e)));clear H hr hn hb9 hk9 y1 y2 y3 y3b y6 y8 y9;cases ok with
         | false=>
          obtain⟨hff,hbb⟩:fv=false∧b'=bs:=by
           rcases HCS.out with h | h | h
           ·exact h.2
           ·cases h.1
           ·cases h.1
          subst hff;rw[hbb] at HPA;rw[if_neg (by decide)] at HST1;clear hbb;have HPN:Hid (PlS W0 gin gb gr gF gX gc gp gu gt g ub (some ⟨ib,io,none⟩) ic inn (some ⟨zb,zo,none⟩) zc ins out c hA vA rA hc vc rc t bs used (plTo vars ins out inn c L bs used e r (k+1)).2 w6):=hid (by rw[HST1.out];exact HPA.out);have HKN:=HKA;go_wp2;go_roundw
          case rel=>exact⟨k+1,HK.out,(by first | rfl | (rw[HWK.out];rfl)),(by first | (rw[HST1.out,HMS.out];done) | (rw[HST1.out,HMS.out];rfl)),HPN,HKN⟩
          case measure=>(try rw[HWK.out]);exact meas_step HK.out
         | true=>
          have hnb:NegOr b'∧b'.length=40:=by
           have hl0:=HPR.out.bd.1;rcases HCS.out with h | h | h
           ·cases h.1
           ·rw[h.2.2];exact⟨HU.out.2,hl0⟩
           ·rw[h.2.2.2.2];exact⟨HU.out.2.set (Int.natCast_nonneg s),by rw[List.length_set];exact hl0⟩
          have HNB:=hid hnb;clear hnb;rw[if_pos rfl] at HST1;have y1:=HPA.out.bi.cell_ 0 (.slice (some ⟨ib,io,none⟩) inn.length ic) rfl;have y2:=HPA.out.bb.cell_ 0 (.pointer (some ⟨g,0,none⟩)) rfl;have y3:=HPA.out.br.cell_ 0 (.slice (some ⟨zb,zo,none⟩) ins.length zc) rfl;have y3b:=HPA.out.br.cell_ 1 (.int .i64 out) rfl;have y6:=HPA.out.bc.cell_ 0 (.int .i64 c) rfl;have y8:=HPA.out.bu.cell_ 0 (.slice (some ⟨ub,0,none⟩) inn.length inn.length) rfl;obtain⟨y9,f9⟩:=HPA.out.us.cellk (k:=k) (by rw[HU.out.1];exact HK.out);have HPM:=hid (HPA.out.mark HD.out k true);have HKM:Hid (Kept (PlT gF gX g ub) w (w6.setCell ⟨ub,k,none⟩ (.bool true))):=hid (HKA.out.setCell (p:=⟨ub,k,none⟩) (.inl (.inr (.inl rfl))) _);have hcall:=HIH.out b' (used.set k true) x.2 _ (Nat.le_of_lt (by have:=HII.out;omega)) (by rw[List.length_set];exact HU.out.1) HNB.out.1 HPM.out;rw[HII.out.2.1] at hcall;have HCALL2:=hid hcall;clear hcall;go_upto_region 15 with fail
          clear y1 y2 y3 y3b y6 y8;clear y9 f9;obtain⟨w7,hw7⟩:∃ W,W=w6.setCell ⟨ub,k,none⟩ (.bool true):=⟨_,rfl⟩
          rw[← hw7] at HPM HKM HCALL2 ⊢;clear hw7;have y7:=HPM.out.bp.cell_ 0 _ rfl;go_wp2_with (go_at_call 113;refine HCALL2.out.mono ?_;rintro e8 w8 ⟨rfl,hp8,hk8⟩;refine Hid.out ?_);refine hid ?_;have HP8:=hid hp8;have HK8:=hid (HKM.out.trans hk8);clear hp8 hk8 y7 HCALL2;obtain⟨r8,hr8⟩:∃ r8,r8=placeP vars ins out inn c L b' (used.set k true) x.2:=⟨_,rfl⟩
          rw[← hr8] at HP8 HST1;clear hr8;have y1:=HP8.out.bi.cell_ 0 (.slice (some ⟨ib,io,none⟩) inn.length ic) rfl;have y2:=HP8.out.bb.cell_ 0 (.pointer (some ⟨g,0,none⟩)) rfl;have y3:=HP8.out.br.cell_ 0 (.slice (some ⟨zb,zo,none⟩) ins.length zc) rfl;have y3b:=HP8.out.br.cell_ 1 (.int .i64 out) rfl;have y6:=HP8.out.bc.cell_ 0 (.int .i64 c) rfl;have y8:=HP8.out.bu.cell_ 0 (.slice (some ⟨ub,0,none⟩) inn.length inn.length) rfl;obtain⟨y9,f9⟩:=HP8.out.us.cellk (k:=k) (by rw[List.length_set,HU.out.1];exact HK.out);have hp9:=HP8.out.mark HD.out k false;rw[setB_back (by rw[HU.out.1];exact HK.out) HUB.out] at hp9;have HP9:=hid hp9;have HK9:Hid (Kept (PlT gF gX g ub) w (w8.setCell ⟨ub,k,none⟩ (.bool false))):=hid (HK8.out.setCell (p:=⟨ub,k,none⟩) (.inl (.inr (.inl rfl))) _);clear hp9;go_upto_region 17 with fail
          clear y1 y2 y3 y3b y6 y8;clear y9 f9;obtain⟨w9,hw9⟩:∃ W,W=w8.setCell ⟨ub,k,none⟩ (.bool false):=⟨_,rfl⟩
          rw[← hw9] at HP9 HK9 ⊢;clear hw9;cases fv with
          | false=>
           have hbb:b'=bs:=by
            rcases HCS.out with h | h | h
            ·exact h.2.2
            ·exact h.2.2
            ·cases h.2.1
           rw[hbb] at HP9;clear hbb;have HPN:Hid (PlS W0 gin gb gr gF gX gc gp gu gt g ub (some ⟨ib,io,none⟩) ic inn (some ⟨zb,zo,none⟩) zc ins out c hA vA rA hc vc rc t bs used (plTo vars ins out inn c L bs used e r (k+1)).2 w9):=hid (by rw[HST1.out];exact HP9.out);have HKN:=HK9;go_wp2;go_roundw
           case rel=>exact⟨k+1,HK.out,(by first | rfl | (rw[HWK.out];rfl)),(by first | (rw[HST1.out,HMS.out];done) | (rw[HST1.out,HMS.out];rfl)),HPN,HKN⟩
           case measure=>(try rw[HWK.out]);exact meas_step HK.out
          | true=>
           have hf:e < 0∧bs.getD (-1 - e).toNat 0 < 0∧b'=bs.set (-1 - e).toNat (s:Int):=by
            rcases HCS.out with h | h | h
            ·cases h.2.1
            ·cases h.2.1
            ·exact h.2.2
           obtain⟨v,hv⟩:∃ v:Nat,-1 - e=(v:Int):=⟨(-1 - e).toNat,by omega⟩
           have hv':(-1 - e).toNat=v:=by omega
           have hv40:v < 40:=by have:=HEL.out.1 hf.1;have:=HE.out.2.2.2;omega
           rw[hv'] at hf;have hwv:wrap64 (-1 - e)=(v:Int):=by unfold wrap64;omega
           have hp10:=HP9.out.back HD.out v (-1);rw[hf.2.2,set_back HU.out.2 HPR.out.bd.1 hv40 (Int.not_le.2 hf.2.1)] at hp10;have HP10:=hid hp10;have HK10:Hid (Kept (PlT gF gX g ub) w (w9.setCell ⟨g,v,none⟩ (.int .i64 (-1)))):=hid (HK9.out.setCell (p:=⟨g,v,none⟩) (.inl (.inl rfl)) _);have HV:=hid (And.intro hwv hv40);have q0:=HP9.out.bd.at_ hv40;have q1:=HP9.out.bd.2.frozen v;obtain⟨zq,hzq⟩:∃ z,z=b'.getD v 0:=⟨_,rfl⟩
           rw[← hzq] at q0;have hz9:=HZ.out.1.ext HP9.out.low;have hcz:w9.cell? ⟨zb,zo+i,none⟩=some (.int .i64 e):=by
            obtain⟨b9,o9,e9,-,h9⟩:=hz9.at_ (k:=i) (by rw[HZ.out.2.2];exact HII.out.2.2);injection e9 with e9
            injection e9 with e9 e8
            subst e9 e8;rw[h9,HEE.out,List.getD_eq_getElem?_getD,List.getElem?_eq_getElem (by rw[HZ.out.2.2];exact HII.out.2.2)];rfl
           have y1:=HP9.out.bi.cell_ 0 (.slice (some ⟨ib,io,none⟩) inn.length ic) rfl;have y2:=HP9.out.bb.cell_ 0 (.pointer (some ⟨g,0,none⟩)) rfl;have y3:=HP9.out.br.cell_ 0 (.slice (some ⟨zb,zo,none⟩) ins.length zc) rfl;have y3b:=HP9.out.br.cell_ 1 (.int .i64 out) rfl;have y6:=HP9.out.bc.cell_ 0 (.int .i64 c) rfl;have y8:=HP9.out.bu.cell_ 0 (.slice (some ⟨ub,0,none⟩) inn.length inn.length) rfl;clear hf hv hv' hp10 hzq hz9;go_upto_region 18 with fail
           have hwv:=HV.out.1;go_region
           have HP11:=hid (HP10.out.same HD.out (Below.refl _ (w9.setCell ⟨g,v,none⟩ (.int .i64 (-1)))).drew);have HK11:=hid HK10.out.drew;have HPN:Hid (PlS W0 gin gb gr gF gX gc gp gu gt g ub (some ⟨ib,io,none⟩) ic inn (some ⟨zb,zo,none⟩) zc ins out c hA vA rA hc vc rc t bs used (plTo vars ins out inn c L bs used e r (k+1)).2 (w9.setCell ⟨g,v,none⟩ (.int .i64 (-1))).drew):=hid (by rw[HST1.out];exact HP11.out);have HKN:=HK11;go_wp2;go_roundw
           case rel=>exact⟨k+1,HK.out,(by first | rfl | (rw[HWK.out];rfl)),(by first | (rw[HST1.out,HMS.out];done) | (rw[HST1.out,HMS.out];rfl)),HPN,HKN⟩
           case measure=>(try rw[HWK.out]);exact meas_step HK.out

    ·obtain rfl:k=inn.length:=Nat.le_antisymm hk (Nat.le_of_not_lt hkl);have HRES:Hid (x.2=placeP vars ins out inn c (L+1) bs used r):=hid (by rw[HPL.out,HXX.out]);clear hk hkl hx;go_wp2;(try simp only[Exit.inBlock,Exit.then]);refine bodyPost_end (results_none rfl _ _ _) rfl ?_;exact⟨rfl,by rw[← HRES.out];exact HPR.out,HKR.out⟩
end Go.Proofs.YtcmbdhopmncmnaaGreatDoor
