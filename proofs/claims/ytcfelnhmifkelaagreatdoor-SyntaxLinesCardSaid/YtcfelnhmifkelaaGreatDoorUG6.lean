/-
  texts TxtR Prs: parts of the proof; conditions stand with each theorem.
-/
import Derived.Test.YtcfelnhmifkelaaGreatDoorUG5
import Derived.Test.YtcfelnhmifkelaaGreatDoorUG0
import Derived.Lib.IndexLaws
import Derived.Lib.IndexMore
namespace Go.Proofs.YtcfelnhmifkelaaGreatDoor
open Lib(hid)
open Go.RowKit
set_option maxRecDepth 100000
set_option linter.unusedVariables false
set_option linter.unusedSimpArgs false

theorem rdec_any (n:Int)(h0:0≤n)(h1:n≤9223372036854775807)(w:World):Calls Tryz.prog 117 #[.int .i64 n] w fun e w'=>e=.returned (.string ⟨(Lib.itoa n).toArray⟩)∧w'=w:=by
 have h:=decimal_any n.toNat w (by omega);rw[show ((n.toNat:Nat):Int)=n by omega] at h;rw[show Lib.itoa n=Lib.decDigits n.toNat by rw[← itoa_nat,show ((n.toNat:Nat):Int)=n by omega]];exact h
theorem rlo_mem {ps:List Cel}(h:ps≠[]):hdC ps ∈ ps∧lstC ps ∈ ps:=by
 refine⟨?_,?_⟩
 ·cases ps with
  | nil=>exact absurd rfl h
  | cons a l=>exact List.mem_cons_self
 ·unfold lstC;rw[List.getLastD_eq_getLast?,List.getLast?_eq_some_getLast h];exact List.getLast_mem h
theorem rbox_size (ps:List Cel):0≤(boxC ps).1.w∧(boxC ps).1.w≤4194304∧0≤(boxC ps).1.h∧(boxC ps).1.h≤4194304:=by
 unfold boxC
 split
 ·rename_i h;have hb:=right_bd h.2;have h1:=lo_bd (·.x) h.1 (fun c hc=>(hb c hc).1) ps.length;have h2:=hi_bd (·.x) h.1 (fun c hc=>(hb c hc).1) ps.length;have h3:lo (·.x) ps ps.length≤hi (·.x) ps ps.length:=by
   have key:∀ k,k≤ps.length→lo (·.x) ps k≤hi (·.x) ps k:=by
    intro k;induction k with
    | zero=>intro _;exact Int.le_refl _
    | succ k ih=>
     intro hk;rw[lo_snoc _ (by omega),hi_snoc _ (by omega)];have:=ih (by omega);omega
   exact key _ (Nat.le_refl _)
  have h4:=hb (hdC ps) (rlo_mem h.1).1;have h5:=hb (lstC ps) (rlo_mem h.1).2;have h6:(hdC ps).y≤(lstC ps).y:=by
   have:=h.2;unfold rightC at this;simp only[Bool.and_eq_true] at this;exact chain_last this.2 _ (rlo_mem h.1).1
  dsimp only;omega
 ·dsimp only;omega
theorem cat3 (a b:List UInt8):Value.string (⟨a.toArray⟩ ++ ⟨b.toArray⟩ ++ ⟨#[10]⟩)=.string ⟨(a ++ b ++ [10]).toArray⟩:=by
 rw[show (⟨#[10]⟩:ByteArray)=⟨([10]:List UInt8).toArray⟩ from rfl,bytes_app,bytes_app]
theorem cat2 (a b:List UInt8):Value.string (⟨a.toArray⟩ ++ ⟨b.toArray⟩)=.string ⟨(a ++ b).toArray⟩:=by rw[bytes_app]
theorem cat0 (b:List UInt8):Value.string (⟨#[]⟩ ++ ⟨b.toArray⟩)=.string ⟨b.toArray⟩:=by
 rw[show (⟨#[]⟩:ByteArray)=⟨([]:List UInt8).toArray⟩ from rfl,bytes_app];rfl
theorem rmeas_up {n k:Nat}(h:k < n):n - (intOf (.int .i64 ((k:Int)+1))).toNat < n - (intOf (.int .i64 (k:Int))).toNat:=by
 simp[intOf];omega
structure RtJ (w0:World)(P:Nat)(bw:Int)(bh:Int)(sw:List UInt8)(sh:List UInt8)(rule:List UInt8)(L3:List UInt8)(L4:List UInt8)(L8:List UInt8)(L9:List UInt8)(L11:List UInt8)(L12:List UInt8)(b0 b1 b2 b3 b4 b5 b6 b7 b8 b9 b10 b11 b12 b13:Bool)(v38 v39 v40 v41 v42 v43 v44 v45 v46 v47 v48 v49 v50 v10:Value)(w:World):Prop where
 below:Below w0.heap.size w0 w
 h0:b0=true→v38=.pointer (some ⟨P,2,none⟩)
 h1:b1=true→v39=.int .i64 bw
 h2:b2=true→v40=.string ⟨sw.toArray⟩
 h3:b3=true→v41=.string ⟨L3.toArray⟩
 h4:b4=true→v42=.string ⟨L4.toArray⟩
 h5:b5=true→v43=.pointer (some ⟨P,3,none⟩)
 h6:b6=true→v44=.int .i64 bh
 h7:b7=true→v45=.string ⟨sh.toArray⟩
 h8:b8=true→v46=.string ⟨L8.toArray⟩
 h9:b9=true→v47=.string ⟨L9.toArray⟩
 h10:b10=true→v48=.string ⟨rule.toArray⟩
 h11:b11=true→v49=.string ⟨L11.toArray⟩
 h12:b12=true→v50=.string ⟨L12.toArray⟩
 h13:b13=true→v10=.string ⟨L12.toArray⟩
structure RiJ (w0:World)(g1:Nat)(o1:Nat)(n:Nat)(a2:Nat)(k:Nat)(a:Int)(q:Int)(A:Option Addr)(pl:Nat)(c:Nat)(top:Int)(it:List UInt8)(b0 b1 b2 b3 b4 b5 b6 b7:Bool)(v61 v62 v63 v64 v65 v66 v67 v13:Value)(w:World):Prop where
 below:Below w0.heap.size w0 w
 h0:b0=true→v61=.slice (some ⟨g1,o1,none⟩) n a2
 h1:b1=true→v62=.int .i64 k
 h2:b2=true→v63=.pointer (some ⟨g1,o1+k*2,none⟩)
 h3:b3=true→v64=.agg #[.int .i64 a,.int .i64 q]
 h4:b4=true→v65=.slice A pl c
 h5:b5=true→v66=.int .i64 top
 h6:b6=true→v67=.string ⟨it.toArray⟩
 h7:b7=true→v13=.string ⟨it.toArray⟩
section
variable {w0 : World} {g1 : Nat} {o1 : Nat} {n : Nat} {a2 : Nat} {k : Nat} {a : Int} {q : Int} {A : Option Addr} {pl : Nat} {c : Nat} {top : Int} {it : List UInt8} {b0 b1 b2 b3 b4 b5 b6 b7 : Bool} {v61 v62 v63 v64 v65 v66 v67 v13 : Value} {w w' : World}
theorem RiJ.world (H:RiJ w0 g1 o1 n a2 k a q A pl c top it b0 b1 b2 b3 b4 b5 b6 b7 v61 v62 v63 v64 v65 v66 v67 v13 w)(hb:Below w.heap.size w w'):RiJ w0 g1 o1 n a2 k a q A pl c top it b0 b1 b2 b3 b4 b5 b6 b7 v61 v62 v63 v64 v65 v66 v67 v13 w':=
 {H with below:=H.below.trans (hb.mono H.below.size) }
end
set_option maxHeartbeats 16000000 in
theorem rText_any (A:Option Addr)(c:Nat)(ps:List Cel)(rule:List UInt8)(w:World)(ha:Cls w A ps)(hs:rule.length≤1000000) :
  Calls Tryz.prog 85 #[.slice A ps.length c,.string ⟨rule.toArray⟩] w fun e w'=>e=.returned (.tuple #[.string ⟨(textL ps rule).1.toArray⟩,.int .i64 (textL ps rule).2])∧Below w.heap.size w w':=by
 have hn:=ha.le;have HNM:=hid (fun w=>named_any ⟨rule.toArray⟩ w (by show rule.toArray.size≤_;simp;omega));cases hr:rightC ps
 ·have HR:Hid (Calls Tryz.prog 115 #[.slice A ps.length c] w fun e w'=>∃ A1 c1,e=.returned (.tuple #[.slice A1 (runsL ps).length c1,.int .i64 2])∧Below w.heap.size w w'):=hid ((rRuns_any A c ps w ha).mono (by
   rintro e w' ⟨A1,c1,rfl,h1,h2,h3⟩;rw[hr];exact⟨A1,c1,rfl,h3⟩))
  have HT:Hid (textL ps rule=([],2)):=hid (by unfold textL;rw[if_pos hr]);clear hr;go_enter Tryz.func85,Tryz.ntmps85;go_wp2_with fail;refine HR.out.mono ?_;rintro e w1 ⟨A1,c1,rfl,hb1⟩;have HB:=hid hb1;clear hb1;go_wp2;go_ret2;rw[HT.out];exact⟨rfl,HB.out⟩
 have HR:Hid (Calls Tryz.prog 115 #[.slice A ps.length c] w fun e w'=>∃ A1 c1,e=.returned (.tuple #[.slice A1 (runsL ps).length c1,.int .i64 0])∧Pts w' A1 (runsL ps)∧Below w.heap.size w w'):=hid ((rRuns_any A c ps w ha).mono (by
  rintro e w' ⟨A1,c1,rfl,h1,h2,h3⟩;rw[hr];exact⟨A1,c1,rfl,h1,h3⟩))
 have HRT:=hid hr;clear hr;cases hm:nameB rule
 ·have HT:Hid (textL ps rule=([],7)):=hid (by unfold textL;rw[if_neg (by rw[HRT.out];simp),if_pos hm]);rw[hm] at HNM;clear hm;go_enter Tryz.func85,Tryz.ntmps85;go_wp2_with fail;refine HR.out.mono ?_;rintro e w1 ⟨A1,c1,rfl,hp1,hb1⟩;have HB:=hid hb1;clear hb1 hp1;go_wp2_with fail;refine (HNM.out _).mono ?_;rintro e w2 ⟨rfl,hw2⟩;subst hw2;go_wp2;go_ret2;rw[HT.out];exact⟨rfl,HB.out⟩
 have HNT:=hid hm;rw[hm] at HNM;clear hm;have HBX:=hid (fun w' (hb:Below w.heap.size w w')=>(box_eq ps ▸ rbox_any A c ps w' (ha.ext hb):Calls Tryz.prog 116 #[.slice A ps.length c] w' fun e w''=>e=.returned (.tuple #[bxV (boxC ps).1,.bool (boxC ps).2])∧Below w'.heap.size w' w''));have HBD:=hid (rbox_size ps);have HTD:Hid (textL ps rule=if 1048577 < (boxC ps).1.w∨1048577 < (boxC ps).1.h then ([],5) else if 65536 < (fullT ps rule).length then ([],6) else (fullT ps rule,0)):=hid (by unfold textL;rw[if_neg (by rw[HRT.out];simp),if_neg (by rw[HNT.out];simp)]);have HFT:Hid (fullT ps rule=endL (wrapL (headL (boxC ps).1 rule) (itemsL ps))):=hid rfl;obtain⟨q,hq⟩:∃ q,q=boxC ps:=⟨_,rfl⟩
 rw[← hq] at HBX HBD HTD HFT;clear hq;obtain⟨bb,ok⟩:=q;obtain⟨bx,y0,bw,bh⟩:=bb;unfold bxV headL at *;dsimp only at HBX HBD HTD HFT;by_cases hw:1048577 < bw
 ·have HT:Hid (textL ps rule=([],5)):=hid (by rw[HTD.out,if_pos (.inl hw)]);have d1:decide (1048577 < bw)=true:=decide_eq_true hw;clear HTD HFT;go_enter Tryz.func85,Tryz.ntmps85;go_wp2_with fail;refine HR.out.mono ?_;rintro e w1 ⟨A1,c1,rfl,hp1,hb1⟩;have HB1:=hid hb1;have HPT1:=hid hp1;clear hb1 hp1;have HBX1:=hid (HBX.out w1 HB1.out);go_wp2_with fail;refine (HNM.out _).mono ?_;rintro e w2 ⟨rfl,hw2⟩;have hw1:=hw2.symm;clear hw2;subst hw1;go_wp2_with fail;refine HBX1.out.mono ?_;rintro e w3 ⟨rfl,hb3⟩;have br0:=Blk.new w3 73 #[.int .i64 bx,.int .i64 y0,.int .i64 bw,.int .i64 bh];have hb4:=(HB1.out.trans (hb3.mono HB1.out.size)).alloc (Nat.le_trans HB1.out.size hb3.size) (.cells #[.int .i64 bx,.int .i64 y0,.int .i64 bw,.int .i64 bh] 73);have HEP1:=hid (hb3.alloc hb3.size (.cells #[.int .i64 bx,.int .i64 y0,.int .i64 bw,.int .i64 bh] 73));obtain⟨w4,hw4⟩:∃ w4,w4=w3.alloc (.cells #[.int .i64 bx,.int .i64 y0,.int .i64 bw,.int .i64 bh] 73):=⟨_,rfl⟩
  rw[← hw4] at br0 hb4 HEP1;have HB:=hid hb4;have HBR:=hid br0;have HW4:=hid hw4;have HEP:=HEP1;have HPR:=HPT1;clear hb3 hb4 hw4;have q2:=br0.cell_ 2 (.int .i64 bw) rfl;have q3:=br0.cell_ 3 (.int .i64 bh) rfl;clear br0;go_upto_region 7 with fail
  rw[← HW4.out];go_wp2;go_ret2;rw[HT.out];exact⟨rfl,HB.out⟩
 have d1:decide (1048577 < bw)=false:=decide_eq_false hw;by_cases hh:1048577 < bh
 ·have HT:Hid (textL ps rule=([],5)):=hid (by rw[HTD.out,if_pos (.inr hh)]);have d2:decide (1048577 < bh)=true:=decide_eq_true hh;clear HTD HFT;go_enter Tryz.func85,Tryz.ntmps85;go_wp2_with fail;refine HR.out.mono ?_;rintro e w1 ⟨A1,c1,rfl,hp1,hb1⟩;have HB1:=hid hb1;have HPT1:=hid hp1;clear hb1 hp1;have HBX1:=hid (HBX.out w1 HB1.out);go_wp2_with fail;refine (HNM.out _).mono ?_;rintro e w2 ⟨rfl,hw2⟩;have hw1:=hw2.symm;clear hw2;subst hw1;go_wp2_with fail;refine HBX1.out.mono ?_;rintro e w3 ⟨rfl,hb3⟩;have br0:=Blk.new w3 73 #[.int .i64 bx,.int .i64 y0,.int .i64 bw,.int .i64 bh];have hb4:=(HB1.out.trans (hb3.mono HB1.out.size)).alloc (Nat.le_trans HB1.out.size hb3.size) (.cells #[.int .i64 bx,.int .i64 y0,.int .i64 bw,.int .i64 bh] 73);have HEP1:=hid (hb3.alloc hb3.size (.cells #[.int .i64 bx,.int .i64 y0,.int .i64 bw,.int .i64 bh] 73));obtain⟨w4,hw4⟩:∃ w4,w4=w3.alloc (.cells #[.int .i64 bx,.int .i64 y0,.int .i64 bw,.int .i64 bh] 73):=⟨_,rfl⟩
  rw[← hw4] at br0 hb4 HEP1;have HB:=hid hb4;have HBR:=hid br0;have HW4:=hid hw4;have HEP:=HEP1;have HPR:=HPT1;clear hb3 hb4 hw4;have q2:=br0.cell_ 2 (.int .i64 bw) rfl;have q3:=br0.cell_ 3 (.int .i64 bh) rfl;clear br0;go_upto_region 7 with fail
  rw[← HW4.out];go_wp2;go_ret2;rw[HT.out];exact⟨rfl,HB.out⟩
 have d2:decide (1048577 < bh)=false:=decide_eq_false hh;have HT:Hid (textL ps rule=if 65536 < (fullT ps rule).length then ([],6) else (fullT ps rule,0)):=hid (by rw[HTD.out,if_neg (by omega)]);go_enter Tryz.func85,Tryz.ntmps85;go_wp2_with fail;refine HR.out.mono ?_;rintro e w1 ⟨A1,c1,rfl,hp1,hb1⟩;have HB1:=hid hb1;have HPT1:=hid hp1;clear hb1 hp1;have HBX1:=hid (HBX.out w1 HB1.out);go_wp2_with fail;refine (HNM.out _).mono ?_;rintro e w2 ⟨rfl,hw2⟩;have hw1:=hw2.symm;clear hw2;subst hw1;go_wp2_with fail;refine HBX1.out.mono ?_;rintro e w3 ⟨rfl,hb3⟩;have br0:=Blk.new w3 73 #[.int .i64 bx,.int .i64 y0,.int .i64 bw,.int .i64 bh];have hb4:=(HB1.out.trans (hb3.mono HB1.out.size)).alloc (Nat.le_trans HB1.out.size hb3.size) (.cells #[.int .i64 bx,.int .i64 y0,.int .i64 bw,.int .i64 bh] 73);have HEP1:=hid (hb3.alloc hb3.size (.cells #[.int .i64 bx,.int .i64 y0,.int .i64 bw,.int .i64 bh] 73));obtain⟨w4,hw4⟩:∃ w4,w4=w3.alloc (.cells #[.int .i64 bx,.int .i64 y0,.int .i64 bw,.int .i64 bh] 73):=⟨_,rfl⟩
 rw[← hw4] at br0 hb4 HEP1;have HB:=hid hb4;have HBR:=hid br0;have HW4:=hid hw4;have HEP:=HEP1;have HPR:=HPT1;clear hb3 hb4 hw4;have q2:=br0.cell_ 2 (.int .i64 bw) rfl;have q3:=br0.cell_ 3 (.int .i64 bh) rfl;clear br0;go_upto_region 7 with fail
 rw[← HW4.out];go_upto_region 9 with fail
 have HPL:Hid (w3.heap.size < w4.heap.size):=hid HBR.out.lt;have Q2:=hid q2;have Q3:=hid q3;obtain⟨sw,hsw⟩:∃ l,l=Lib.itoa bw:=⟨_,rfl⟩
 obtain⟨sh,hsh⟩:∃ l,l=Lib.itoa bh:=⟨_,rfl⟩
 have Hbw:Hid (Lib.itoa bw=sw):=hid hsw.symm;have Hbh:Hid (Lib.itoa bh=sh):=hid hsh.symm;have hl1:sw.length≤7:=by rw[hsw];exact itoa_len _ HBD.out.1 (by have:=HBD.out;omega)
 have hl2:sh.length≤7:=by rw[hsh];exact itoa_len _ HBD.out.2.2.1 (by have:=HBD.out;omega)
 have hl3:rule.length≤100:=by have h:=HNT.out;unfold nameB at h;simp only[Bool.and_eq_true,decide_eq_true_eq] at h;omega
 obtain⟨L3,e3⟩:∃ l,l=[120,32,61,32] ++ sw:=⟨_,rfl⟩
 obtain⟨L4,e4⟩:∃ l,l=L3 ++ [44,32,121,32,61,32]:=⟨_,rfl⟩
 obtain⟨L8,e8⟩:∃ l,l=L4 ++ sh:=⟨_,rfl⟩
 obtain⟨L9,e9⟩:∃ l,l=L8 ++ [44,32,114,117,108,101,32,61,32]:=⟨_,rfl⟩
 obtain⟨L11,e11⟩:∃ l,l=L9 ++ rule:=⟨_,rfl⟩
 obtain⟨L12,e12⟩:∃ l,l=L11 ++ [10]:=⟨_,rfl⟩
 have HLN:Hid (sw.length≤7∧sh.length≤7∧rule.length≤100∧L3.length≤11∧L4.length≤17∧L8.length≤24∧L9.length≤33∧L11.length≤133∧L12.length≤134):=hid (by
  have k3:L3.length=4+sw.length:=by rw[e3];simp;omega
  have k4:L4.length=L3.length+6:=by rw[e4];simp
  have k8:L8.length=L4.length+sh.length:=by rw[e8];simp
  have k9:L9.length=L8.length+9:=by rw[e9];simp
  have k11:L11.length=L9.length+rule.length:=by rw[e11];simp
  have k12:L12.length=L11.length+1:=by rw[e12];simp
  omega)
 have HF2:Hid (fullT ps rule=endL (wrapL L12 (itemsL ps))):=hid (by rw[HFT.out,e12,e11,e9,e8,e4,e3,hsw,hsh]);have E3:=hid e3;have E4:=hid e4;have E8:=hid e8;have E9:=hid e9;have E11:=hid e11;have E12:=hid e12;clear hsw hsh e3 e4 e8 e9 e11 e12 q2 q3 hl1 hl2 hl3 HTD HFT hw hh d1 d2;refine wp_region_J (by kernel_rfl) (fun listed act w'=>∃ b0 b1 b2 b3 b4 b5 b6 b7 b8 b9 b10 b11 b12 b13 v38 v39 v40 v41 v42 v43 v44 v45 v46 v47 v48 v49 v50 v10,listed=#[b0,b1,b2,b3,b4,b5,b6,b7,b8,b9,b10,b11,b12,b13]∧act=Act.mk #[.slice A ps.length c,.string ⟨rule.toArray⟩,undef,undef,.string ⟨#[]⟩,.int .i64 0,.slice A1 (runsL ps).length c1,.int .i64 0,.pointer (some ⟨w3.heap.size,0,none⟩),.bool ok,v10,undef,undef,undef,.tuple #[.slice A1 (runsL ps).length c1,.int .i64 0],.slice A ps.length c,.tuple #[.slice A1 (runsL ps).length c1,.int .i64 0],.slice A1 (runsL ps).length c1,.int .i64 0,.int .i64 0,.bool false,undef,.string ⟨rule.toArray⟩,.bool true,.bool false,.tuple #[.agg #[.int .i64 bx,.int .i64 y0,.int .i64 bw,.int .i64 bh],.bool ok],.slice A ps.length c,.tuple #[.agg #[.int .i64 bx,.int .i64 y0,.int .i64 bw,.int .i64 bh],.bool ok],.agg #[.int .i64 bx,.int .i64 y0,.int .i64 bw,.int .i64 bh],.bool ok,.pointer (some ⟨w3.heap.size,2,none⟩),.int .i64 bw,.bool false,.bool false,.pointer (some ⟨w3.heap.size,3,none⟩),.int .i64 bh,.bool false,.bool false,v38,v39,v40,v41,v42,v43,v44,v45,v46,v47,v48,v49,v50,undef,undef,undef,undef,undef,undef,undef,undef,undef,undef,undef,undef,undef,undef,undef,undef,undef,undef,undef,undef,undef,undef,undef,undef,undef,undef,undef,undef,undef,undef,undef,undef,undef,undef,undef,undef,undef,undef] []∧RtJ w4 w3.heap.size bw bh sw sh rule L3 L4 L8 L9 L11 L12 b0 b1 b2 b3 b4 b5 b6 b7 b8 b9 b10 b11 b12 b13 v38 v39 v40 v41 v42 v43 v44 v45 v46 v47 v48 v49 v50 v10 w') ?_ ?_ ?_
 ·exact (e_8 (e_8 (e_8 (e_4 ⟨rfl,rfl,(by constructor;(case below=>exact (Below.refl _ w4).drew);all_goals simp)⟩))))
 ·rintro i listed act w' hi ⟨b0,b1,b2,b3,b4,b5,b6,b7,b8,b9,b10,b11,b12,b13,v38,v39,v40,v41,v42,v43,v44,v45,v46,v47,v48,v49,v50,v10,rfl,rfl,H⟩;have hi16:i < 14:=by
   obtain⟨-,o,ho,-⟩:=mem_ready.1 hi;exact (Array.getElem?_eq_some_iff.1 ho).1
  obtain rfl | rfl | rfl | rfl | rfl | rfl | rfl | rfl | rfl | rfl | rfl | rfl | rfl | rfl:i=0∨i=1∨i=2∨i=3∨i=4∨i=5∨i=6∨i=7∨i=8∨i=9∨i=10∨i=11∨i=12∨i=13:=by omega
  all_goals simp[mem_ready,Region.binds] at hi
  ·refine wpOp_hidden rfl fun K hK=>?_;go_wp2;refine OnlyN.mk (hK.out _ _ (e_8 (e_8 (e_8 (e_4 ⟨rfl,rfl,{ H with h0:=fun _=>rfl }⟩)))))
  ·obtain rfl:=H.h0 (by simp[hi]);have cc:=(H.below.cell (p:=⟨w3.heap.size,2,none⟩) HPL.out).trans Q2.out;refine wpOp_hidden rfl fun K hK=>?_;go_wp2;refine OnlyN.mk (hK.out _ _ (e_8 (e_8 (e_8 (e_4 ⟨rfl,rfl,{ H with h1:=fun _=>rfl }⟩)))))
  ·obtain rfl:=H.h1 (by simp[hi]);have HI:=hid (rdec_any bw (by have:=HBD.out;omega) (by have:=HBD.out;omega) w');rw[Hbw.out] at HI;refine wpOp_hidden rfl fun K hK=>?_;go_wp2_with fail;refine (HI.out).mono ?_;rintro e w9 ⟨rfl,hw9⟩;have hw8:=hw9.symm;clear hw9;subst hw8;go_wp2;refine OnlyN.mk (hK.out _ _ (e_8 (e_8 (e_8 (e_4 ⟨rfl,rfl,{ H with h2:=fun _=>rfl }⟩)))))
  ·obtain rfl:=H.h2 (by simp[hi]);have hle:¬ 9223372036854775807 < 4+sw.length:=by have:=HLN.out;omega
   refine wpOp_hidden rfl fun K hK=>?_;go_wp2;refine OnlyN.mk (hK.out _ _ (e_8 (e_8 (e_8 (e_4 ⟨rfl,rfl,{ H with h3:=fun _=>by rw[E3.out,← bytes_app] }⟩)))))
  ·obtain rfl:=H.h3 (by simp[hi]);have hle:¬ 9223372036854775807 < L3.length+6:=by have:=HLN.out;omega
   refine wpOp_hidden rfl fun K hK=>?_;go_wp2;refine OnlyN.mk (hK.out _ _ (e_8 (e_8 (e_8 (e_4 ⟨rfl,rfl,{ H with h4:=fun _=>by rw[E4.out,← bytes_app] }⟩)))))
  ·refine wpOp_hidden rfl fun K hK=>?_;go_wp2;refine OnlyN.mk (hK.out _ _ (e_8 (e_8 (e_8 (e_4 ⟨rfl,rfl,{ H with h5:=fun _=>rfl }⟩)))))
  ·obtain rfl:=H.h5 (by simp[hi]);have cc:=(H.below.cell (p:=⟨w3.heap.size,3,none⟩) HPL.out).trans Q3.out;refine wpOp_hidden rfl fun K hK=>?_;go_wp2;refine OnlyN.mk (hK.out _ _ (e_8 (e_8 (e_8 (e_4 ⟨rfl,rfl,{ H with h6:=fun _=>rfl }⟩)))))
  ·obtain rfl:=H.h6 (by simp[hi]);have HI:=hid (rdec_any bh (by have:=HBD.out;omega) (by have:=HBD.out;omega) w');rw[Hbh.out] at HI;refine wpOp_hidden rfl fun K hK=>?_;go_wp2_with fail;refine (HI.out).mono ?_;rintro e w9 ⟨rfl,hw9⟩;have hw8:=hw9.symm;clear hw9;subst hw8;go_wp2;refine OnlyN.mk (hK.out _ _ (e_8 (e_8 (e_8 (e_4 ⟨rfl,rfl,{ H with h7:=fun _=>rfl }⟩)))))
  ·obtain rfl:=H.h4 (by simp[hi]);obtain rfl:=H.h7 (by simp[hi]);have hle:¬ 9223372036854775807 < L4.length+sh.length:=by have:=HLN.out;omega
   refine wpOp_hidden rfl fun K hK=>?_;go_wp2;refine OnlyN.mk (hK.out _ _ (e_8 (e_8 (e_8 (e_4 ⟨rfl,rfl,{ H with h8:=fun _=>by rw[E8.out,← bytes_app] }⟩)))))
  ·obtain rfl:=H.h8 (by simp[hi]);have hle:¬ 9223372036854775807 < L8.length+9:=by have:=HLN.out;omega
   refine wpOp_hidden rfl fun K hK=>?_;go_wp2;refine OnlyN.mk (hK.out _ _ (e_8 (e_8 (e_8 (e_4 ⟨rfl,rfl,{ H with h9:=fun _=>by rw[E9.out,← bytes_app] }⟩)))))
  ·refine wpOp_hidden rfl fun K hK=>?_;go_wp2;refine OnlyN.mk (hK.out _ _ (e_8 (e_8 (e_8 (e_4 ⟨rfl,rfl,{ H with h10:=fun _=>rfl }⟩)))))
  ·obtain rfl:=H.h9 (by simp[hi]);obtain rfl:=H.h10 (by simp[hi]);have hle:¬ 9223372036854775807 < L9.length+rule.length:=by have:=HLN.out;omega
   refine wpOp_hidden rfl fun K hK=>?_;go_wp2;refine OnlyN.mk (hK.out _ _ (e_8 (e_8 (e_8 (e_4 ⟨rfl,rfl,{ H with h11:=fun _=>by rw[E11.out,← bytes_app] }⟩)))))
  ·obtain rfl:=H.h11 (by simp[hi]);have hle:¬ 9223372036854775807 < L11.length+1:=by have:=HLN.out;omega
   refine wpOp_hidden rfl fun K hK=>?_;go_wp2;refine OnlyN.mk (hK.out _ _ (e_8 (e_8 (e_8 (e_4 ⟨rfl,rfl,{ H with h12:=fun _=>by rw[E12.out,← bytes_app] }⟩)))))
  ·obtain rfl:=H.h12 (by simp[hi]);refine wpOp_hidden rfl fun K hK=>?_;go_wp2;refine OnlyN.mk (hK.out _ _ (e_8 (e_8 (e_8 (e_4 ⟨rfl,rfl,{ H with h13:=fun _=>rfl }⟩)))))
 ·rintro listed act w' hr ⟨b0,b1,b2,b3,b4,b5,b6,b7,b8,b9,b10,b11,b12,b13,v38,v39,v40,v41,v42,v43,v44,v45,v46,v47,v48,v49,v50,v10,rfl,rfl,H⟩;have hn:=List.eq_nil_iff_forall_not_mem.1 hr;have r0:=hn 0;simp[mem_ready,Region.binds] at r0;subst r0;have r1:=hn 1;simp[mem_ready,Region.binds] at r1;subst r1;have r2:=hn 2;simp[mem_ready,Region.binds] at r2;subst r2;have r3:=hn 3;simp[mem_ready,Region.binds] at r3;subst r3;have r4:=hn 4;simp[mem_ready,Region.binds] at r4;subst r4;have r5:=hn 5;simp[mem_ready,Region.binds] at r5;subst r5;have r6:=hn 6;simp[mem_ready,Region.binds] at r6;subst r6;have r7:=hn 7;simp[mem_ready,Region.binds] at r7;subst r7;have r8:=hn 8;simp[mem_ready,Region.binds] at r8;subst r8;have r9:=hn 9;simp[mem_ready,Region.binds] at r9;subst r9;have r10:=hn 10;simp[mem_ready,Region.binds] at r10;subst r10;have r11:=hn 11;simp[mem_ready,Region.binds] at r11;subst r11;have r12:=hn 12;simp[mem_ready,Region.binds] at r12;subst r12;have r13:=hn 13;simp[mem_ready,Region.binds] at r13;subst r13;dsimp only;obtain rfl:=H.h13 rfl;have hbe5:=H.below;clear H hr hn;generalize w'=w5 at *;have HIS:Hid (∀ k r,(runsL ps)[k]?=some r→(itemsL ps ++ [[33]])[k]?=some (itemC (decide (topC ps≤1)) r)):=hid (by
   intro k r h;have hk:k < (itemsL ps).length:=by obtain⟨h,-⟩:=List.getElem?_eq_some_iff.1 h;unfold itemsL;simpa using h
   rw[List.getElem?_append_left hk];unfold itemsL;rw[List.getElem?_map,h];rfl)
  have HJL:Hid ((itemsL ps ++ [[33]]).length=(runsL ps).length+1):=hid (by unfold itemsL;simp);have HJE:Hid ((itemsL ps ++ [[33]])[(runsL ps).length]?=some [33]):=hid (by
   rw[List.getElem?_append_right (by unfold itemsL;simp),show (runsL ps).length - (itemsL ps).length=0 by unfold itemsL;simp];rfl)
  have HSP:=hid (runs_spec ps);have HI8:Hid (∀ x ∈ itemsL ps ++ [[33]],x.length≤8):=hid (by
   intro x hx;rw[List.mem_append,List.mem_singleton] at hx;rcases hx with hx | rfl
   ·unfold itemsL at hx;rw[List.mem_map] at hx;obtain⟨r,hr,rfl⟩:=hx;have h:=(HSP.out.2.2 r hr).1;exact item_len _ r (by have:=h.2.2.1;omega) (by have:=h.2.2.2;omega)
   ·simp)
  have HWL:Hid (∀ k,(wrapL L12 ((itemsL ps ++ [[33]]).take k)).1.length+(wrapL L12 ((itemsL ps ++ [[33]]).take k)).2.length≤140200):=hid (by
   intro k;have h1:=wrap_len L12 ((itemsL ps ++ [[33]]).take k) (fun x hx=>HI8.out x (List.mem_of_mem_take hx));have h2:=HLN.out;have h3:((itemsL ps ++ [[33]]).take k).length≤15001:=by rw[List.length_take,HJL.out];have:=HSP.out.2.1;omega
   omega)
  have HFJ:Hid (fullT ps rule=(wrapL L12 (itemsL ps ++ [[33]])).1 ++ (wrapL L12 (itemsL ps ++ [[33]])).2 ++ [10]):=hid (by
   rw[HF2.out];unfold endL wrapL;rw[List.foldl_append];rfl)
  have HE5:=hid (HB.out.trans (hbe5.mono HB.out.size));have HP5:=hid (HPR.out.ext (HEP.out.trans (hbe5.mono HEP.out.size)));have HTP:Hid (∀ w',Below w.heap.size w w'→Calls Tryz.prog 119 #[.slice A ps.length c] w' fun e w''=>e=.returned (.int .i64 (topC ps))∧w''=w'):=hid (fun w' hb=>rtop_any A c ps w' (ha.ext hb));clear hbe5;obtain⟨top,htop⟩:∃ t,t=topC ps:=⟨_,rfl⟩
  obtain⟨l,hl⟩:∃ l,l=runsL ps:=⟨_,rfl⟩
  obtain⟨js,hjs⟩:∃ l,l=itemsL ps ++ [[33]]:=⟨_,rfl⟩
  rw[← htop] at HTP HIS HSP;rw[← hl] at HP5 HIS HSP HJL HJE;rw[← hjs] at HIS HJL HI8 HWL HFJ HJE;rw[← hl];have HLL:Hid (l.length≤15000):=hid HSP.out.2.1;clear htop hl hjs HPR;go_wp2;go_loopw [10,11,12,13] (fun s line i _ wr=>∃ k:Nat,k≤l.length+1∧i=.int .i64 k∧s=.string ⟨(wrapL L12 (js.take k)).1.toArray⟩∧line=.string ⟨(wrapL L12 (js.take k)).2.toArray⟩∧Hid (Below w.heap.size w wr)∧Hid (Pts wr A1 l)) (fun _ _ i _ _=>l.length+1 - (intOf i).toNat)
  case atStart=>exact⟨0,Nat.zero_le _,rfl,by rw[List.take_zero];rfl,by rw[List.take_zero];rfl,HE5,HP5⟩
  case round=>
   clear HE5 HP5;obtain⟨k,hk,rfl,rfl,rfl,HE,HPT⟩:=hrel;have hwl:=HWL.out k;by_cases hlt:k < l.length
   ·have d0:decide (k≤l.length)=true:=decide_eq_true (by omega);have d1:decide ((k:Int) < (l.length:Int))=true:=decide_eq_true (by omega);obtain⟨gb,o1,e1,hbs,hr1,hr2⟩:=HPT.out.at_ hlt;have HIX:js[k]?=some (itemC (decide (top≤1)) l[k]):=HIS.out k l[k] (List.getElem?_eq_getElem hlt);have hkl:k < js.length:=by rw[HJL.out];omega
    have hrk:=HSP.out.2.2 l[k] (List.getElem_mem hlt);obtain⟨r,hr⟩:∃ r,r=l[k]:=⟨_,rfl⟩
    rw[← hr] at hr1 hr2 HIX hrk;obtain⟨it,hit⟩:∃ x,x=itemC (decide (top≤1)) r:=⟨_,rfl⟩
    rw[← hit] at HIX;have HTK:Hid (wrapL L12 (js.take (k+1))=putL (wrapL L12 (js.take k)) it):=hid (by
     rw[wrap_snoc L12 hkl]
     congr 1
     rw[List.getElem?_eq_getElem hkl] at HIX;exact Option.some.inj HIX)
    have HI1:Hid (it.length≤8):=hid (HI8.out it (List.mem_of_getElem? HIX));obtain⟨a,q⟩:=r;dsimp only at hr1 hr2 hrk;have HIT:Hid (∀ w',Calls Tryz.prog 118 #[.agg #[.int .i64 a,.int .i64 q],.int .i64 top] w' fun e w''=>e=.returned (.string ⟨it.toArray⟩)∧Below w'.heap.size w' w''):=hid (fun w'=>by
     have h:=item_any a q top w' (by have:=hrk.1.2.2.2;omega) hrk.2 (by have:=hrk.1.2.1;omega);rw[← hit] at h;exact h)
    have HX:Hid (gb < wr.heap.size∧wr.cell? ⟨gb,o1+k*2,none⟩=some (.int .i64 a)∧wr.cell? ⟨gb,o1+k*2+1,none⟩=some (.int .i64 q)):=hid ⟨hbs,hr1,hr2⟩;obtain⟨t,ht⟩:∃ t,t=wrapL L12 (js.take k):=⟨_,rfl⟩
    rw[← ht] at HTK hwl;have HLW:=hid hwl;rw[← ht];clear ht hwl hr1 hr2 hbs hrk hit hr HIX;subst e1;go_upto_region 16 with fail
    refine wp_region_J (by kernel_rfl) (fun listed act w'=>∃ b0 b1 b2 b3 b4 b5 b6 b7 v61 v62 v63 v64 v65 v66 v67 v13,listed=#[b0,b1,b2,b3,b4,b5,b6,b7]∧act=Act.mk #[.slice A ps.length c,.string ⟨rule.toArray⟩,undef,undef,.string ⟨#[]⟩,.int .i64 0,.slice (some ⟨gb,o1,none⟩) l.length c1,.int .i64 0,.pointer (some ⟨w3.heap.size,0,none⟩),.bool ok,.string ⟨t.1.toArray⟩,.string ⟨t.2.toArray⟩,.int .i64 k,v13,.tuple #[.slice (some ⟨gb,o1,none⟩) l.length c1,.int .i64 0],.slice A ps.length c,.tuple #[.slice (some ⟨gb,o1,none⟩) l.length c1,.int .i64 0],.slice (some ⟨gb,o1,none⟩) l.length c1,.int .i64 0,.int .i64 0,.bool false,undef,.string ⟨rule.toArray⟩,.bool true,.bool false,.tuple #[.agg #[.int .i64 bx,.int .i64 y0,.int .i64 bw,.int .i64 bh],.bool ok],.slice A ps.length c,.tuple #[.agg #[.int .i64 bx,.int .i64 y0,.int .i64 bw,.int .i64 bh],.bool ok],.agg #[.int .i64 bx,.int .i64 y0,.int .i64 bw,.int .i64 bh],.bool ok,.pointer (some ⟨w3.heap.size,2,none⟩),.int .i64 bw,.bool false,.bool false,.pointer (some ⟨w3.heap.size,3,none⟩),.int .i64 bh,.bool false,.bool false,v38,v39,v40,v41,v42,v43,v44,v45,v46,v47,v48,v49,v50,.int .i64 k,.slice (some ⟨gb,o1,none⟩) l.length c1,.int .i64 l.length,.bool true,u55,u56,.int .i64 k,.slice (some ⟨gb,o1,none⟩) l.length c1,.int .i64 l.length,.bool true,v61,v62,v63,v64,v65,v66,v67,u68,u69,u70,u71,u72,u73,u74,u75,u76,u77,u78,u79,u80,undef,undef,undef,undef,undef,undef,undef,undef] []∧RiJ wr gb o1 l.length c1 k a q A ps.length c top it b0 b1 b2 b3 b4 b5 b6 b7 v61 v62 v63 v64 v65 v66 v67 v13 w') ?_ ?_ ?_
    ·exact (e_8 (e_8 ⟨rfl,rfl,(by constructor;(case below=>exact (Below.refl _ wr).drew);all_goals simp)⟩))
    ·rintro i listed act w' hi ⟨b0,b1,b2,b3,b4,b5,b6,b7,v61,v62,v63,v64,v65,v66,v67,v13,rfl,rfl,H⟩;have hi16:i < 8:=by
      obtain⟨-,o,ho,-⟩:=mem_ready.1 hi;exact (Array.getElem?_eq_some_iff.1 ho).1
     obtain rfl | rfl | rfl | rfl | rfl | rfl | rfl | rfl:i=0∨i=1∨i=2∨i=3∨i=4∨i=5∨i=6∨i=7:=by omega
     all_goals simp[mem_ready,Region.binds] at hi
     ·refine wpOp_hidden rfl fun K hK=>?_;go_wp2;refine OnlyN.mk (hK.out _ _ (e_8 (e_8 ⟨rfl,rfl,{ H with h0:=fun _=>rfl }⟩)))
     ·refine wpOp_hidden rfl fun K hK=>?_;go_wp2;refine OnlyN.mk (hK.out _ _ (e_8 (e_8 ⟨rfl,rfl,{ H with h1:=fun _=>rfl }⟩)))
     ·obtain rfl:=H.h0 (by simp[hi]);obtain rfl:=H.h1 (by simp[hi]);have hkl:k < l.length:=hlt;refine wpOp_hidden rfl fun K hK=>?_;go_wp2;refine OnlyN.mk (hK.out _ _ (e_8 (e_8 ⟨rfl,rfl,{ H with h2:=fun _=>rfl }⟩)))
     ·obtain rfl:=H.h2 (by simp[hi]);have hx1:=(H.below.cell (p:=⟨gb,o1+k*2,none⟩) HX.out.1).trans HX.out.2.1;have hx2:=(H.below.cell (p:=⟨gb,o1+k*2+1,none⟩) HX.out.1).trans HX.out.2.2;refine wpOp_hidden rfl fun K hK=>?_;go_wp2;refine OnlyN.mk (hK.out _ _ (e_8 (e_8 ⟨rfl,rfl,{ H with h3:=fun _=>rfl }⟩)))
     ·refine wpOp_hidden rfl fun K hK=>?_;go_wp2;refine OnlyN.mk (hK.out _ _ (e_8 (e_8 ⟨rfl,rfl,{ H with h4:=fun _=>rfl }⟩)))
     ·obtain rfl:=H.h4 (by simp[hi]);have HT9:=hid (HTP.out w' (HE.out.trans (H.below.mono HE.out.size)));refine wpOp_hidden rfl fun K hK=>?_;go_wp2_with fail;refine (HT9.out).mono ?_;rintro e w9 ⟨rfl,hw9⟩;have hw8:=hw9.symm;clear hw9;subst hw8;go_wp2;refine OnlyN.mk (hK.out _ _ (e_8 (e_8 ⟨rfl,rfl,{ H with h5:=fun _=>rfl }⟩)))
     ·obtain rfl:=H.h3 (by simp[hi]);obtain rfl:=H.h5 (by simp[hi]);have HI9:=hid (HIT.out w');refine wpOp_hidden rfl fun K hK=>?_;go_wp2_with fail;refine HI9.out.mono ?_;rintro e w9 ⟨rfl,hb9⟩;have HA:=hid (H.world hb9);clear H hb9;go_wp2;refine OnlyN.mk (hK.out _ _ (e_8 (e_8 ⟨rfl,rfl,⟨HA.out.below,HA.out.h0,HA.out.h1,HA.out.h2,HA.out.h3,HA.out.h4,HA.out.h5,fun _=>rfl,HA.out.h7⟩⟩)))
     ·obtain rfl:=H.h6 (by simp[hi]);refine wpOp_hidden rfl fun K hK=>?_;go_wp2;refine OnlyN.mk (hK.out _ _ (e_8 (e_8 ⟨rfl,rfl,{ H with h7:=fun _=>rfl }⟩)))
    ·rintro listed act w' hr ⟨b0,b1,b2,b3,b4,b5,b6,b7,v61,v62,v63,v64,v65,v66,v67,v13,rfl,rfl,H⟩;have hn:=List.eq_nil_iff_forall_not_mem.1 hr;have r0:=hn 0;simp[mem_ready,Region.binds] at r0;subst r0;have r1:=hn 1;simp[mem_ready,Region.binds] at r1;subst r1;have r2:=hn 2;simp[mem_ready,Region.binds] at r2;subst r2;have r3:=hn 3;simp[mem_ready,Region.binds] at r3;subst r3;have r4:=hn 4;simp[mem_ready,Region.binds] at r4;subst r4;have r5:=hn 5;simp[mem_ready,Region.binds] at r5;subst r5;have r6:=hn 6;simp[mem_ready,Region.binds] at r6;subst r6;have r7:=hn 7;simp[mem_ready,Region.binds] at r7;subst r7;dsimp only;obtain rfl:=H.h7 rfl;have HE2:=hid (HE.out.trans (H.below.mono HE.out.size));have HPT2:=hid (HPT.out.ext H.below);clear H hr hn;have hwa:wrap64 ((t.2.length:Int)+(it.length:Int))=(t.2.length:Int)+(it.length:Int):=by have:=HLW.out;have:=HI1.out;unfold wrap64;omega
     have hwk:wrap64 ((k:Int)+1)=(k:Int)+1:=by have:=HLL.out;unfold wrap64;omega
     by_cases h7:70 < t.2.length+it.length
     ·have HP:Hid (wrapL L12 (js.take (k+1))=(t.1 ++ t.2 ++ [10],it)):=hid (by rw[HTK.out];exact put_yes h7);have d7:decide ((70:Int) < (t.2.length:Int)+(it.length:Int))=true:=decide_eq_true (by omega);have hle1:¬ 9223372036854775807 < t.1.length+t.2.length:=by have:=HLW.out;omega
      have hle2:¬ 9223372036854775807 < (t.1 ++ t.2).length+1:=by have:=HLW.out;rw[List.length_append];omega
      have hle2':¬ 9223372036854775807 < t.1.length+t.2.length+1:=by have:=HLW.out;omega
      have hle3:¬ 9223372036854775807 < it.length:=by have:=HI1.out;omega
      have hle4:¬ 9223372036854775807 < 0+it.length:=by have:=HI1.out;omega
      clear h7;go_wp2;go_roundw
      case rel=>
       refine⟨k+1,by omega,?_,?_,?_,HE2,HPT2⟩
       ·go_num
       ·rw[HP.out];exact cat3 _ _
       ·rw[HP.out];exact cat0 _
      case measure=>rw[hwk];exact rmeas_up (by omega)
     ·have HP:Hid (wrapL L12 (js.take (k+1))=(t.1,t.2 ++ it)):=hid (by rw[HTK.out];exact put_no h7);have d7:decide ((70:Int) < (t.2.length:Int)+(it.length:Int))=false:=decide_eq_false (by omega);have hle1:¬ 9223372036854775807 < t.2.length+it.length:=by omega
      clear h7;go_wp2;go_roundw
      case rel=>
       refine⟨k+1,by omega,?_,?_,?_,HE2,HPT2⟩
       ·go_num
       ·rw[HP.out]
       ·rw[HP.out];exact cat2 _ _
      case measure=>rw[hwk];exact rmeas_up (by omega)
   ·by_cases hle:k=l.length
    ·subst hle;have d0:decide ((l.length:Int)≤(l.length:Int))=true:=decide_eq_true (by omega);have d1:decide ((l.length:Int) < (l.length:Int))=false:=decide_eq_false (by omega);have hkl:l.length < js.length:=by rw[HJL.out];omega
     have HIX:=HJE.out;obtain⟨it,hit⟩:∃ x:List UInt8,x=[33]:=⟨_,rfl⟩
     rw[← hit] at HIX;have HTK:Hid (wrapL L12 (js.take (l.length+1))=putL (wrapL L12 (js.take l.length)) it):=hid (by
      rw[wrap_snoc L12 hkl]
      congr 1
      rw[List.getElem?_eq_getElem hkl] at HIX;exact Option.some.inj HIX)
     have HI1:Hid (it.length≤8):=hid (HI8.out it (List.mem_of_getElem? HIX));have hz:(.string ⟨#[33]⟩:Value)=.string ⟨it.toArray⟩:=by rw[hit]
     obtain⟨t,ht⟩:∃ t,t=wrapL L12 (js.take l.length):=⟨_,rfl⟩
     rw[← ht] at HTK hwl;have HLW:=hid hwl;rw[← ht];clear ht hwl HIX;have HZ:=hid hz;have HI33:=hid hit;clear hit hz;go_upto_region 17 with fail
     rw[HZ.out];have hwa:wrap64 ((t.2.length:Int)+(it.length:Int))=(t.2.length:Int)+(it.length:Int):=by have:=HLW.out;have:=HI1.out;unfold wrap64;omega
     have hwk:wrap64 ((l.length:Int)+1)=(l.length:Int)+1:=by have:=HLL.out;unfold wrap64;omega
     by_cases h7:70 < t.2.length+it.length
     ·have HP:Hid (wrapL L12 (js.take (l.length+1))=(t.1 ++ t.2 ++ [10],it)):=hid (by rw[HTK.out];exact put_yes h7);have d7:decide ((70:Int) < (t.2.length:Int)+(it.length:Int))=true:=decide_eq_true (by omega);have hle1:¬ 9223372036854775807 < t.1.length+t.2.length:=by have:=HLW.out;omega
      have hle2:¬ 9223372036854775807 < (t.1 ++ t.2).length+1:=by have:=HLW.out;rw[List.length_append];omega
      have hle2':¬ 9223372036854775807 < t.1.length+t.2.length+1:=by have:=HLW.out;omega
      have hle3:¬ 9223372036854775807 < it.length:=by have:=HI1.out;omega
      have hle4:¬ 9223372036854775807 < 0+it.length:=by have:=HI1.out;omega
      clear h7;go_wp2;go_roundw
      case rel=>
       refine⟨l.length+1,by omega,?_,?_,?_,HE,HPT⟩
       ·go_num
       ·rw[HP.out];exact cat3 _ _
       ·rw[HP.out];exact cat0 _
      case measure=>rw[hwk];exact rmeas_up (by omega)
     ·have HP:Hid (wrapL L12 (js.take (l.length+1))=(t.1,t.2 ++ it)):=hid (by rw[HTK.out];exact put_no h7);have d7:decide ((70:Int) < (t.2.length:Int)+(it.length:Int))=false:=decide_eq_false (by omega);have hle1:¬ 9223372036854775807 < t.2.length+it.length:=by omega
      clear h7;go_wp2;go_roundw
      case rel=>
       refine⟨l.length+1,by omega,?_,?_,?_,HE,HPT⟩
       ·go_num
       ·rw[HP.out]
       ·rw[HP.out];exact cat2 _ _
      case measure=>rw[hwk];exact rmeas_up (by omega)
    ·have hz:k=l.length+1:=by omega
     subst hz;have d0:decide (((l.length+1:Nat):Int)≤(l.length:Int))=false:=decide_eq_false (by omega);have htk:js.take (l.length+1)=js:=by rw[← HJL.out];exact List.take_length
     rw[htk];rw[htk] at hwl;obtain⟨t,ht⟩:∃ t,t=wrapL L12 js:=⟨_,rfl⟩
     rw[← ht] at hwl HFJ;rw[← ht];clear ht htk;have hle1:¬ 9223372036854775807 < t.1.length+t.2.length:=by omega
     have hle2:¬ 9223372036854775807 < (t.1 ++ t.2).length+1:=by rw[List.length_append];omega
     have hle2':¬ 9223372036854775807 < t.1.length+t.2.length+1:=by omega
     rw[HFJ.out] at HT;obtain⟨f,hf⟩:∃ f,f=t.1 ++ t.2 ++ [10]:=⟨_,rfl⟩
     have hfl:f.length=t.1.length+t.2.length+1:=by rw[hf];simp;omega
     rw[← hf] at HT;go_upto_region 22 with fail
     rw[cat3,← hf];have HF9:=hid hf;clear hf;by_cases h1:65536 < f.length
     ·have HN:Hid (textL ps rule=([],6)):=hid (by rw[HT.out,if_pos h1]);have h2:(65536:Int) < (f.length:Int):=by omega
      clear h1 hfl hwl hle1 hle2 hle2';go_wp2;go_ret2;rw[HN.out];exact⟨rfl,HE.out⟩
     ·have HN:Hid (textL ps rule=(f,0)):=hid (by rw[HT.out,if_neg h1]);have h2:(f.length:Int)≤(65536:Int):=by omega
      clear h1 hfl hwl hle1 hle2 hle2';go_wp2;go_ret2;rw[HN.out];exact⟨rfl,HE.out⟩
end Go.Proofs.YtcfelnhmifkelaaGreatDoor
namespace Go.Proofs.YtcfelnhmifkelaaGreatDoor
open Go.RowKit
set_option maxRecDepth 100000
set_option linter.unusedVariables false
set_option linter.unusedSimpArgs false

def digRun:List UInt8→List UInt8
 | []=>[]
 | c :: l=>if isDig c then c :: digRun l else []
def numL (l:List UInt8):Int:=l.foldl (fun n c=>10*n+digOf c) 0
def okN (d:Nat)(l:List UInt8):Bool:=decide (l≠[]) && decide (l.length≤d) && !(decide (1 < l.length) && (l.headD 0 == 48))
def numT (d:Nat)(l:List UInt8):Int × Bool:=if okN d l=true∧l.all isDig=true then (numL l,true) else (0,false)
theorem digRun_le:∀ l:List UInt8,(digRun l).length≤l.length
 | []=>Nat.le_refl _
 | c :: l=>by
  unfold digRun
  split
  ·have:=digRun_le l
   simp;exact this
  ·simp
theorem digRun_all:∀ l:List UInt8,∀ c ∈ digRun l,isDig c=true
 | [],c,h=>by cases h
 | a :: l,c,h=>by
  unfold digRun at h
  split at h
  ·rcases List.mem_cons.1 h with rfl | h
   ·assumption
   ·exact digRun_all l c h
  ·cases h
theorem digRun_split:∀ l:List UInt8,l=digRun l ++ l.drop (digRun l).length
 | []=>rfl
 | a :: l=>by
  unfold digRun
  split
  ·have:=digRun_split l;simp only[List.length_cons,List.drop_succ_cons,List.cons_append];rw[← this]
  ·rfl
theorem numL_snoc (l:List UInt8)(c:UInt8):numL (l ++ [c])=10*numL l+digOf c:=by simp[numL]
theorem isDig_bd {c:UInt8}(h:isDig c=true):0≤digOf c∧digOf c≤9:=by
 unfold isDig at h;simp only[Bool.and_eq_true,decide_eq_true_eq] at h;unfold digOf;omega
theorem numF_bd:∀ (l:List UInt8)(n:Int),(∀ c ∈ l,isDig c=true)→0≤n→0≤l.foldl (fun n c=>10*n+digOf c) n∧l.foldl (fun n c=>10*n+digOf c) n < (n+1)*((10 ^ l.length:Nat):Int)
 | [],n,_,h0=>by simp;omega
 | c :: l,n,h,h0=>by
  have hc:=isDig_bd (h c List.mem_cons_self);have ih:=numF_bd l (10*n+digOf c) (fun x hx=>h x (List.mem_cons_of_mem _ hx)) (by omega);rw[List.foldl_cons];refine⟨ih.1,Int.lt_of_lt_of_le ih.2 ?_⟩;rw[List.length_cons,Nat.pow_succ,Int.natCast_mul,show (((10:Nat)):Int)=10 from rfl,← Int.mul_assoc,Int.mul_right_comm];refine Int.mul_le_mul_of_nonneg_right ?_ (by first | exact Int.natCast_nonneg _ | exact Int.pow_nonneg (by decide));omega
theorem numL_bd7 {l:List UInt8}(h:∀ c ∈ l,isDig c=true)(hl:l.length≤7):0≤numL l∧numL l < 10000000:=by
 have h1:=numF_bd l 0 h (Int.le_refl _);have h2:10 ^ l.length≤10 ^ 7:=Nat.pow_le_pow_right (by omega) hl;rw[show (10:Nat) ^ 7=10000000 from rfl] at h2;unfold numL;omega
theorem numL_bd9 {l:List UInt8}(h:∀ c ∈ l,isDig c=true)(hl:l.length≤9):0≤numL l∧numL l < 1000000000:=by
 have h1:=numF_bd l 0 h (Int.le_refl _);have h2:10 ^ l.length≤10 ^ 9:=Nat.pow_le_pow_right (by omega) hl;rw[show (10:Nat) ^ 9=1000000000 from rfl] at h2;unfold numL;omega
def lineOf (l:List UInt8):List UInt8:=l.takeWhile (fun c=>c != 10)
def afterLine (l:List UInt8):List UInt8:=l.drop ((lineOf l).length+1)
def skipN:Nat→List UInt8→List UInt8
 | 0,l=>l
 | f+1,l=>if l.head?=some 35 then skipN f (afterLine l) else l
theorem afterLine_len (l:List UInt8):(afterLine l).length≤l.length - 1:=by
 unfold afterLine;rw[List.length_drop];omega
theorem skipN_fuel:∀ (f g:Nat)(l:List UInt8),l.length≤f→l.length≤g→skipN f l=skipN g l
 | 0,0,l,_,_=>rfl
 | 0,g+1,l,h,_=>by
  have h0:l=[]:=List.eq_nil_of_length_eq_zero (by omega);subst h0;rfl
 | f+1,0,l,_,h=>by
  have h0:l=[]:=List.eq_nil_of_length_eq_zero (by omega);subst h0;rfl
 | f+1,g+1,l,h1,h2=>by
  have:=afterLine_len l;unfold skipN;rw[skipN_fuel f g (afterLine l) (by omega) (by omega)]
def skipC (l:List UInt8):List UInt8:=skipN l.length l
theorem skipC_yes {l:List UInt8}(h:l.head?=some 35):skipC l=skipC (afterLine l):=by
 cases l with
 | nil=>cases h
 | cons a l=>
  unfold skipC;rw[List.length_cons,skipN,if_pos h];have:=afterLine_len (a :: l);exact skipN_fuel _ _ _ (by simpa using this) (Nat.le_refl _)
theorem skipC_no {l:List UInt8}(h:¬ l.head?=some 35):skipC l=l:=by
 cases l with
 | nil=>rfl
 | cons a l=>
  unfold skipC;rw[List.length_cons,skipN,if_neg h]
def stripL (t l:List UInt8):Option (List UInt8):=if t.isPrefixOf l then some (l.drop t.length) else none
def hdrL (l:List UInt8):Option (Int × Int × List UInt8):=
 match stripL [120,32,61,32] l with
 | none=>none
 | some a=>
  if okN 9 (digRun a)=false then none else
  match stripL [44,32,121,32,61,32] (a.drop (digRun a).length) with
  | none=>none
  | some b=>
   if okN 9 (digRun b)=false then none else
   match stripL [44,32,114,117,108,101,32,61,32] (b.drop (digRun b).length) with
   | none=>none
   | some r=>some (numL (digRun a),numL (digRun b),r)
structure PS where
 out:List Cel
 x:Int
 y:Int
def cellsP (x y:Int)(n:Nat)(k:Int):List Cel:=(List.range n).map fun (i:Nat)=>(⟨x+(i:Int),y,k⟩:Cel)
def stepP (w h:Int)(s:PS)(k n:Int):PS × Int:=
 if k < 0 then (⟨s.out,0,s.y+n⟩,0)
 else if 0 < k∧(w < s.x+n∨h≤s.y) then (s,5)
 else if 0 < k∧5000 < (s.out.length:Int)+n then (s,6)
 else if 0 < k then (⟨s.out ++ cellsP s.x s.y n.toNat k,s.x+n,s.y⟩,0)
 else (⟨s.out,s.x+n,s.y⟩,0)
def runN (ds:List UInt8):Int:=if ds=[] then 1 else numL ds
def readM (w h:Int):List UInt8→List UInt8→PS→List Cel × Int
 | [],_,_=>([],4)
 | c :: r,ds,s=>
  if isDig c=true then
   if (ds ++ [c]).headD 0=48∨7≤ds.length then ([],15) else readM w h r (ds ++ [c]) s
  else if ds=[]∧(c=32∨c=10) then readM w h r [] s
  else if ds=[]∧c=33 then (s.out,0)
  else if stateC c.toNat = -2 then ([],15)
  else if (stepP w h s (stateC c.toNat) (runN ds)).2≠0 then ([],(stepP w h s (stateC c.toNat) (runN ds)).2)
  else readM w h r [] (stepP w h s (stateC c.toNat) (runN ds)).1
def ps0:PS:=⟨[],0,0⟩
def parseL (l:List UInt8):List Cel × List UInt8 × Int:=
 if 65536 < l.length then ([],[],6)
 else match hdrL (lineOf (skipC l)) with
  | none=>([],[],15)
  | some (w,h,rule)=>
   if nameB rule=false then ([],[],7)
   else if 1048577 < w∨1048577 < h then ([],[],5)
   else if (readM w h (afterLine (skipC l)) [] ps0).2≠0 then ([],[],(readM w h (afterLine (skipC l)) [] ps0).2)
   else ((readM w h (afterLine (skipC l)) [] ps0).1,rule,0)
section
variable {w h : Int} {c : UInt8} {r ds : List UInt8} {s : PS}
theorem rd_end:readM w h [] ds s=([],4):=rfl
theorem rd_dig_bad (h1:isDig c=true)(h2:(ds ++ [c]).headD 0=48∨7≤ds.length):readM w h (c :: r) ds s=([],15):=by
 unfold readM;rw[if_pos h1,if_pos h2]
theorem rd_dig (h1:isDig c=true)(h2:¬ ((ds ++ [c]).headD 0=48∨7≤ds.length)):readM w h (c :: r) ds s=readM w h r (ds ++ [c]) s:=by
 rw[readM,if_pos h1,if_neg h2]
theorem rd_blank (h1:c=32∨c=10):readM w h (c :: r) [] s=readM w h r [] s:=by
 rw[readM,if_neg (by rcases h1 with rfl | rfl <;> decide),if_pos ⟨rfl,h1⟩]
theorem rd_stop:readM w h (33 :: r) [] s=(s.out,0):=by
 rw[readM,if_neg (by decide),if_neg (by decide),if_pos ⟨rfl,rfl⟩]
theorem rd_bad (h1:isDig c=false)(h2:ds=[]→¬ (c=32∨c=10)∧¬ c=33) (h3:stateC c.toNat = -2):readM w h (c :: r) ds s=([],15):=by
 rw[readM,if_neg (by rw[h1];simp),if_neg (fun hh=>(h2 hh.1).1 hh.2),if_neg (fun hh=>(h2 hh.1).2 hh.2),if_pos h3]
theorem rd_err (h1:isDig c=false)(h2:ds=[]→¬ (c=32∨c=10)∧¬ c=33) (h3:¬ stateC c.toNat = -2)(h4:(stepP w h s (stateC c.toNat) (runN ds)).2≠0):readM w h (c :: r) ds s=([],(stepP w h s (stateC c.toNat) (runN ds)).2):=by
 rw[readM,if_neg (by rw[h1];simp),if_neg (fun hh=>(h2 hh.1).1 hh.2),if_neg (fun hh=>(h2 hh.1).2 hh.2),if_neg h3,if_pos h4]
theorem rd_step (h1:isDig c=false)(h2:ds=[]→¬ (c=32∨c=10)∧¬ c=33) (h3:¬ stateC c.toNat = -2)(h4:(stepP w h s (stateC c.toNat) (runN ds)).2=0):readM w h (c :: r) ds s=readM w h r [] (stepP w h s (stateC c.toNat) (runN ds)).1:=by
 rw[readM,if_neg (by rw[h1];simp),if_neg (fun hh=>(h2 hh.1).1 hh.2),if_neg (fun hh=>(h2 hh.1).2 hh.2),if_neg h3,if_neg (by rw[h4];simp)]
end
section
variable {w h : Int} {s : PS} {k n : Int}
theorem st_line (h0:k < 0):stepP w h s k n=(⟨s.out,0,s.y+n⟩,0):=by unfold stepP;rw[if_pos h0]
theorem st_far (h0:0 < k)(h1:w < s.x+n∨h≤s.y):stepP w h s k n=(s,5):=by unfold stepP;rw[if_neg (by omega),if_pos ⟨h0,h1⟩]
theorem st_many (h0:0 < k)(h1:¬ (w < s.x+n∨h≤s.y)) (h2:5000 < (s.out.length:Int)+n):stepP w h s k n=(s,6):=by unfold stepP;rw[if_neg (by omega),if_neg (fun hh=>h1 hh.2),if_pos ⟨h0,h2⟩]
theorem st_push (h0:0 < k)(h1:¬ (w < s.x+n∨h≤s.y)) (h2:¬ 5000 < (s.out.length:Int)+n):stepP w h s k n=(⟨s.out ++ cellsP s.x s.y n.toNat k,s.x+n,s.y⟩,0):=by unfold stepP;rw[if_neg (by omega),if_neg (fun hh=>h1 hh.2),if_neg (fun hh=>h2 hh.2),if_pos h0]
theorem st_gap (h0:k=0):stepP w h s k n=(⟨s.out,s.x+n,s.y⟩,0):=by unfold stepP;rw[if_neg (by omega),if_neg (fun hh=>by omega),if_neg (fun hh=>by omega),if_neg (by omega)]
end
theorem cellsP_zero (x y k:Int):cellsP x y 0 k=[]:=rfl
theorem cellsP_snoc (x y k:Int)(n:Nat):cellsP x y (n+1) k=cellsP x y n k ++ [⟨x+n,y,k⟩]:=by
 unfold cellsP;rw[List.range_succ,List.map_append];rfl
theorem cellsP_len (x y k:Int)(n:Nat):(cellsP x y n k).length=n:=by unfold cellsP;simp
theorem stateC_big {c:Int}(h:128≤c):stateC c = -2:=stateC_n (by omega) (by omega) (by omega) (by omega)
theorem stateC_bd (c:Int):-2≤stateC c∧stateC c≤7:=by
 unfold stateC
 split
 ·omega
 ·split
  ·omega
  ·split
   ·omega
   ·split <;> omega
end Go.Proofs.YtcfelnhmifkelaaGreatDoor
