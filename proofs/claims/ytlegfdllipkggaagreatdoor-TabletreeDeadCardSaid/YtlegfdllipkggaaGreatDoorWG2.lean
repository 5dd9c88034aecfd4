/-
  texts Byte Node Clone J: parts of the proof; conditions stand with each theorem.
-/
import Derived.Test.YtlegfdllipkggaaGreatDoorWG1
import Derived.Test.YtlegfdllipkggaaGreatDoorShelf
import Derived.Lib.ItoaLen
import Derived.Lib.Slices
import Derived.Test.YtlegfdllipkggaaGreatDoorWG0
namespace Go.Proofs.YtlegfdllipkggaaGreatDoor
open Go.RowKit Go.Maps
set_option maxRecDepth 100000
set_option linter.unusedVariables false
set_option linter.unusedSimpArgs false

def OwnB (w:World)(base:Nat)(v:Value)(l:List UInt8):Prop:=w.ownsRow base 5 1 v l.length (Lib.byteCells l)
theorem OwnB.nil (w:World)(base:Nat):OwnB w base (.slice none 0 0) []:=World.ownsRow_nil _ _ _ _
theorem OwnB.ext {w w':World}{base:Nat}{v:Value}{l:List UInt8}(h:OwnB w base v l)(hb:Below w.heap.size w w'):OwnB w' base v l:=own_below h hb
theorem OwnB.form {w:World}{base:Nat}{v:Value}{l:List UInt8}(h:OwnB w base v l):∃ A c,v=.slice A l.length c:=by
 obtain⟨A,c,h1,-,-⟩:=own_form h;exact⟨A,c,h1⟩
theorem wpList_pushB {wr:World}{ops:Array Oper}{rest:List Oper}{o:Oper}{a:Act}{Q:Exit→Act→World→Prop}(hgd:o.guard=none)(s x:Operand)
  (ho:o.op=.call { callee:=.builtin .append,args:=#[s,x],argTypes:=#[95,95] })
  (base:Nat) (v:Value) (l:List UInt8) (hs:a.eval s=v) (hown:OwnB wr base v l)
  (c:UInt8) (z:Int) (hz:z=(c.toNat:Int)) (hx:a.eval x=.slice (some ⟨wr.heap.size,0,none⟩) 1 1)
  (hn:l.length < 1000000000000) (hbase:base≤wr.heap.size)
  (h:∀ v' w',OwnB w' base v' (l ++ [c])→Below base wr w'→(∀ g t' cs,5≠t'→Blk wr g t' cs→Blk w' g t' cs)→wpList Tryz.prog ops Q rest (a.put o.dst v') w') :
  wpList Tryz.prog ops Q (o :: rest) a (wr.alloc (.cells #[.int .u8 z] 5)):=by
 subst hz;obtain⟨i0,hi0,hz0,hz1,hz2⟩:=info_parts Tryz.infoByte;refine wpList_append_own _ hgd s x _ ho base 5 i0 _ 1 1 Tryz.underlying95 hi0 hz0 hz1 hz2 rfl (by decide) v l.length (Lib.byteCells l) hs (World.ownsRow.alloc hown _) ⟨wr.heap.size,0,none⟩ 1 1 [.int .u8 c.toNat] hx rfl ?_ (by simp[Value.oneCell']) (by unfold maxLen;omega) (by omega) (by simp;omega) ?_
 ·intro j u hu;rw[addr_add];have:(wr.alloc (.cells #[.int .u8 c.toNat] 5)).cell? ⟨wr.heap.size,0+j,none⟩=(#[.int .u8 c.toNat]:Array Value)[0+j]?:=cell_of_row _ _ _ _ _ _ (heap_alloc_new wr _);rw[this];simpa using hu
 ·intro v' w' hown' hg _;have hrow:∀ k,v.ownBlock=some k→base≤k∧∃ cur,wr.heap[k]?=some (.cells cur 5 (0,0)):=by
   intro k hk;rcases hown.2 with ⟨rfl,_⟩ | ⟨g,cap,cur,rfl,h4,h5,_⟩
   ·simp[Value.ownBlock] at hk
   ·simp[Value.ownBlock] at hk;subst hk;exact⟨h4,cur,h5⟩
  refine h v' w' (by unfold OwnB Lib.byteCells;rw[List.length_append,List.map_append];exact hown') ?_ ?_
  ·exact ((Below.refl base wr).alloc hbase _).grown hg (by simp;omega) (fun k hk=>(hrow k hk).1)
  ·intro g t' cs hne hb;exact (hb.alloc _).grown hg (fun e'=>by
    obtain⟨-,cur,hc⟩:=hrow g e'.symm;unfold Blk at hb;rw[hb] at hc;injection hc with hc
    injection hc with _ hc
    exact hne hc.symm)
theorem back_nil (w:World)(c:Nat):(convert 95 9 (.slice none 0 c)).run Tryz.prog w=.ok (.string ⟨#[]⟩) w:=by
 rw[run_convert_bytes_string w _ _ 5 none 0 c Tryz.underlying95 Tryz.underlying5 Tryz.underlying9];simp[Conv.bytesToString];rfl
theorem back_any {w:World}{base:Nat}{A:Option Addr}{c:Nat}{l:List UInt8}(h:OwnB w base (.slice A l.length c) l) :
  (convert 95 9 (.slice A l.length c)).run Tryz.prog w=.ok (.string ⟨l.toArray⟩) w:=by
 rcases h.2 with ⟨h1,h2⟩ | ⟨g,cap,cur,hv,-⟩
 ·obtain rfl:=List.eq_nil_of_length_eq_zero h2;injection h1 with h1 _ h3
  subst h1 h3;exact back_nil w 0
 ·injection hv with h1 h2 h3
  subst h1;refine run_convert_bytes_back w _ _ 5 ⟨g,0,none⟩ c l Tryz.underlying95 Tryz.underlying5 Tryz.underlying9 fun j hj=>?_;have h4:=World.ownsRow.cells h rfl j (.int .u8 (l[j].toNat:Int)) (by simp[Lib.byteCells,hj]);simpa using h4
def TabB (B : Nat) (w : World) : Prop := Lib.TabBelow Tryz.prog B w "internal/strconv.uint64pow10" .u64 Lib.pow10Tab
theorem TabB.on {B:Nat}{w w':World}(h:TabB B w)(hb:Below B w w'):TabB B w':=Lib.TabBelow.on h hb
theorem TabB.up {B B':Nat}{w:World}(h:TabB B w)(hb:B≤B'):TabB B' w:=fun w' h'=>h w' ⟨h'.os,h'.tape,h'.output,h'.size,fun k hk=>h'.block k (by omega)⟩
theorem appInt (B:Nat)(l:List UInt8)(i:Int)(v:Value)(w:World)(ho:OwnB w B v l)(hB:B≤w.heap.size)(hl:l.length≤1000000)(h0:-9223372036854775808≤i)(h1:i≤9223372036854775807)(ht:TabB B w) :
  Calls Tryz.prog 68 #[v,.int .i64 i,.int .i64 10] w fun e w'=>∃ v',e=.returned v'∧OwnB w' B v' (l ++ Lib.itoa i)∧Below B w w':=by
 refine (Tryz.strconv_AppendInt_10 B l.length i h0 h1 v (Lib.byteCells l) w ho hB (by omega) ht).mono ?_;rintro e w' ⟨v',rfl,h,hb,-⟩;refine⟨v',rfl,?_,hb⟩;unfold OwnB;rw[List.length_append,show Lib.byteCells (l ++ Lib.itoa i)=Lib.byteCells l ++ Lib.byteCells (Lib.itoa i) by simp[Lib.byteCells]];exact h
theorem itoa_len21 {i:Int}(h0:-9223372036854775808≤i)(h1:i≤9223372036854775807):(Lib.itoa i).length≤21:=Lib.itoa_length_le i h0 h1
theorem tail_len:∀ (zs:List Int),(∀ z ∈ zs,-9223372036854775808≤z∧z≤9223372036854775807)→(tailB zs).length≤22*zs.length
 | [],_=>by simp[tailB]
 | z :: r,h=>by
  have h1:=tail_len r fun x hx=>h x (by simp[hx]);have h2:=itoa_len21 (h z (by simp)).1 (h z (by simp)).2;simp only[tailB,List.flatMap_cons,List.length_append,List.length_cons] at h1 ⊢;omega
theorem key_len {x:Nd}(h0:-9223372036854775808≤x.1∧x.1≤9223372036854775807)(h:∀ z ∈ x.2,-9223372036854775808≤z∧z≤9223372036854775807):(keyB x).length≤21+22*x.2.length:=by
 unfold keyB;rw[List.length_append];have:=tail_len x.2 h;have:=itoa_len21 h0.1 h0.2;omega
theorem key_snoc (lv:Int)(zs:List Int)(k:Nat)(hk:k < zs.length):keyB (lv,zs.take (k+1))=keyB (lv,zs.take k) ++ [32] ++ Lib.itoa zs[k]:=by
 unfold keyB;rw[List.take_succ_eq_append_getElem hk];simp only[tail_snoc,List.append_assoc];rfl
end Go.Proofs.YtlegfdllipkggaaGreatDoor
namespace Go.Proofs.YtlegfdllipkggaaGreatDoor
open Lib(hid)
open Go.RowKit Go.Maps
set_option maxRecDepth 100000
set_option linter.unusedVariables false
set_option linter.unusedSimpArgs false

set_option maxHeartbeats 4000000 in
theorem node_any (B p M:Nat)(T:TypeId)(cs:Array Value)(nv:Value)(hs:List Hd)(D:DataW Unit)(w:World)(hb:Bld B p M T cs nv hs D w)(hB:B≤w.heap.size)(ht:TabB B w)
  (A:Option Addr) (c:Nat) (zs:List Int) (lv:Int) (ho:OwnIA w B (.slice A zs.length c) zs) (hz:∀ z ∈ zs,0≤z∧z≤1000000000000) (hl:0≤lv∧lv≤1000000000000) (hzl:zs.length≤1000)
  (hn:hs.length < 1000000000000) (hT:T≠58) (hT2:T≠3) :
  Calls Tryz.prog 80 #[.pointer (some ⟨p,0,none⟩),.int .i64 lv,.slice A zs.length c] w fun e w'=>∃ nv' hs' D' cs',e=.returned (.int .i64 ((addN (hs.map Hd.nd) (lv,zs)).1:Nat))∧
   Bld B p M T cs' nv' hs' D' w'∧hs'.map Hd.nd=(addN (hs.map Hd.nd) (lv,zs)).2∧Kept (BldS p M nv) w w'∧(nv'.ownBlock=nv.ownBlock∨∃ g,nv'.ownBlock=some g∧w.heap.size≤g)∧
   (∀ i,1≤i→cs'[i]?=cs[i]?)∧∀ x ∈ hs',x ∈ hs∨x=⟨lv,A,c,zs⟩:=by
 have hi:=ho.reads;have hz2:∀ z ∈ zs,-9223372036854775808≤z∧z≤9223372036854775807:=fun z h=>by have:=hz z h;omega
 have HT0:=hid (ht.up hB);have HI:=hid hi;have HZ:=hid hz2;have HBL:=hid hb;have HA0:=hid (appInt w.heap.size [] lv (.slice none 0 0) w (OwnB.nil _ _) (Nat.le_refl _) (by simp) (by omega) (by omega) HT0.out);have hn1:=hi.le;clear hb ht hi hz hz2;go_enter Tryz.func80,Tryz.ntmps80;go_wp2_with (go_at_call 68;refine HA0.out.mono ?_);rintro e w1 ⟨v1,rfl,ho1,hb1⟩;clear HA0;rw[List.nil_append] at ho1;have HO1:=hid ho1;have HB1:=hid hb1;clear ho1 hb1;have hkl:∀ k,(keyB (lv,zs.take k)).length≤1000000:=fun k=>by
  have:=key_len (x:=(lv,zs.take k)) (by dsimp only;omega) (fun z h=>HZ.out z (List.mem_of_mem_take h));have h2:(zs.take k).length≤zs.length:=by rw[List.length_take];omega
  dsimp only at this;omega
 have HKL:=hid hkl;clear hkl;go_wp2;go_loopw [7,16] (fun kv i wr=>∃ k:Nat,k≤zs.length∧i=.int .i64 k∧Hid (OwnB wr w.heap.size kv (keyB (lv,zs.take k)))∧Hid (Below w.heap.size w wr)) (fun _ i _=>zs.length - (intOf i).toNat)
 case atStart=>exact⟨0,Nat.zero_le _,rfl,hid (by have:=HO1.out;simpa [keyB,tailB] using this),HB1⟩
 case round=>
  clear HB1 HO1;obtain⟨k,hk,rfl,HO,HB⟩:=hrel;by_cases hlt:k < zs.length
  ·obtain⟨b1,o1,e1,hbl,hc0⟩:=(HI.out.ext HB.out).at_ hlt;have HK:=hid (key_snoc lv zs k hlt);have HZ1:=hid (HZ.out zs[k] (List.getElem_mem hlt));obtain⟨z,hz⟩:∃ z,z=zs[k]:=⟨_,rfl⟩
   rw[← hz] at HK HZ1 hc0;have hw1:wrap64 ((k:Int)+1)=(k:Int)+1:=by unfold wrap64;omega
   have hown3:=HO.out;have hbs3:=HB.out.size;have hln3:(keyB (lv,zs.take k)).length < 1000000000000:=Nat.lt_of_le_of_lt (HKL.out k) (by decide);subst e1;clear hz;go_wp2_with (at_builtin;refine wpList_pushB rfl _ _ rfl w.heap.size _ _ rfl hown3 32 _ rfl rfl hln3 hbs3 ?_);intro v' w9 ho9 hb9 hk9;have HA9:=hid (appInt w.heap.size _ z v' w9 ho9 (Nat.le_trans HB.out.size hb9.size) (by rw[List.length_append];have:=HKL.out (k+1);rw[HK.out,List.length_append,List.length_append] at this;omega) HZ1.out.1 HZ1.out.2 (HT0.out.on (HB.out.trans hb9)));have HB9:=hid (HB.out.trans hb9);clear ho9 hb9 hk9 hown3 hbs3 hln3;go_wp2_with (go_at_call 68;refine HA9.out.mono ?_);rintro e w2 ⟨v2,rfl,ho2,hb2⟩;rw[← HK.out] at ho2;have HO2:=hid ho2;have HB2:=hid (HB9.out.trans hb2);clear ho2 hb2 HA9;go_wp2;go_roundw
   case rel=>exact⟨k+1,hlt,rfl,HO2,HB2⟩
   case measure=>simp[intOf];omega
  ·obtain rfl:k=zs.length:=by omega
   have HO1:=HO;rw[List.take_length] at HO1;clear HO hk hlt;have HBw:=hid (HBL.out.ext HB.out);obtain⟨A7,c7,hv7⟩:=HO1.out.form;subst hv7;have HCV:∀ n,(convert 95 9 (.slice A7 (keyB (lv,zs)).length c7)).run Tryz.prog (wr.drewN n)=.ok (.string ⟨(keyB (lv,zs)).toArray⟩) (wr.drewN n):=fun n=>back_any (w:=wr.drewN n) (HO1.out.ext (below_drewN (Below.refl _ _) n));have HKS:(keyB (lv,zs)).length≤maxLen:=by have:=HKL.out zs.length;rw[List.take_length] at this;unfold maxLen;omega
   have HKY:keyOf Tryz.prog 9 (.string ⟨(keyB (lv,zs)).toArray⟩)=some (.string (keyB (lv,zs))):=WideMaps.keyOf_string_mk Tryz.underlying9 HKS;have HLK:∀ n,∃ v:Int,(Instr.lookup 76 (.map (some M)) (.string ⟨(keyB (lv,zs)).toArray⟩) true).run Tryz.prog (wr.drewN n)=.ok (.tuple #[.int .i64 v,.bool (Maps.has D (.string (keyB (lv,zs))))]) (wr.drewN n)∧
     D.atKey (.string (keyB (lv,zs))) (.lit (.int .i64 0))=.lit (.int .i64 v):=by
    intro n;have hm:MapA (wr.drewN n) M hs.length D:=HBw.out.map;obtain⟨v,ps,hrun,hat⟩:=hm.look_ok Tryz.law Tryz.underlying76 (Tryz.zeroInt _) (plainElem_int Tryz.underlying3 (by decide)) HKY;obtain⟨x,rfl,hx,-⟩:=plainElem_int_inv Tryz.underlying3 hat;exact⟨x,hrun,congrArg Prod.fst hx⟩
   have hc0:wr.cell? ⟨p,0,none⟩=some nv:=HBw.out.blk.cell_ 0 _ HBw.out.c0;have hc1:wr.cell? ⟨p,1,none⟩=some (.map (some M)):=HBw.out.blk.cell_ 1 _ HBw.out.c1;obtain⟨KS,hKS⟩:∃ KS:ByteArray,KS=⟨(keyB (lv,zs)).toArray⟩:=⟨_,rfl⟩
   obtain⟨L,hL⟩:∃ L,L=(keyB (lv,zs)).length:=⟨_,rfl⟩
   rw[← hKS] at HCV HLK HKY;rw[← hL] at HCV;have hO1:=HO1.out;rw[← hL] at hO1;have HL:=hid hL;have HKSe:=hid hKS;have HO2:=hid hO1;have HKS2:=hid HKS;have HKY2:=hid HKY;have HKN:=hid (HBw.out.known.2 (lv,zs));rw[← hL];clear hL hKS hO1 HO1 HKS HKY;cases hpo:posOf (hs.map Hd.nd) (lv,zs) with
   | some i=>
    have HH:Maps.has D (.string (keyB (lv,zs)))=true:=by have:=HKN.out.1;rw[hpo] at this;exact this
    have HV:=HKN.out.2 i hpo;rw[HH] at HLK;have hlk:∀ n,(Instr.lookup 76 (.map (some M)) (.string KS) true).run Tryz.prog (wr.drewN n)=.ok (.tuple #[.int .i64 i,.bool true]) (wr.drewN n):=by
     intro n;obtain⟨v,h1,h2⟩:=HLK n;rw[HV] at h2;injection h2 with h2
     injection h2 with _ h2
     rw[h1,h2]
    have HE:Hid ((addN (hs.map Hd.nd) (lv,zs))=(i,hs.map Hd.nd)):=hid (by unfold addN;rw[hpo]);clear HLK HV HH hpo HKN;go_wp2;go_quiet (fail)
    go_wp2;go_ret;refine⟨nv,hs,D,cs,by rw[HE.out] <;> rfl,HBw.out.ext (below_drewN (Below.refl _ _) _),by rw[HE.out],Kept.of_new _ (below_drewN HB.out _),.inl rfl,fun _ _=>rfl,fun x hx=>.inl hx⟩
   | none=>
    have HH:Maps.has D (.string (keyB (lv,zs)))=false:=by have:=HKN.out.1;rw[hpo] at this;exact this
    rw[HH] at HLK;obtain⟨v0,-,hv0⟩:=HLK 0;have hlk:∀ n,(Instr.lookup 76 (.map (some M)) (.string KS) true).run Tryz.prog (wr.drewN n)=.ok (.tuple #[.int .i64 v0,.bool false]) (wr.drewN n):=by
     intro n;obtain⟨v,h1,h2⟩:=HLK n;rw[hv0] at h2;injection h2 with h2
     injection h2 with _ h2
     rw[h1,h2]
    have HE:Hid ((addN (hs.map Hd.nd) (lv,zs))=(hs.length,hs.map Hd.nd ++ [(lv,zs)])):=hid (by unfold addN;rw[hpo];simp);have HPO:=hid hpo;clear HLK hv0 HH hpo HKN;go_wp2;go_quiet (fail)
    obtain⟨wq,hwq⟩:∃ wq,wq=wr.drewN nq:=⟨_,rfl⟩
    have HBq:Hid (Below w.heap.size w wq):=hid (by rw[hwq];exact below_drewN HB.out _);have HBB:Hid (Bld B p M T cs nv hs D wq):=hid (by rw[hwq];exact HBw.out.ext (below_drewN (Below.refl _ _) _));have HOq:Hid (OwnB wq w.heap.size (.slice A7 L c7) (keyB (lv,zs))):=hid (by rw[hwq];exact HO2.out.ext (below_drewN (Below.refl _ _) _));have hcq0:wq.cell? ⟨p,0,none⟩=some nv:=HBB.out.blk.cell_ 0 _ HBB.out.c0;have hcq1:wq.cell? ⟨p,1,none⟩=some (.map (some M)):=HBB.out.blk.cell_ 1 _ HBB.out.c1;have hfq:=HBB.out.blk.frozen 0;rw[← hwq];clear HBw HO2 HB hlk HCV hc0 hc1 hwq;have HIq:Hid (OwnIA wq B (.slice A zs.length c) zs):=hid (ho.ext HBq.out);have hbq:=Nat.le_trans hB HBq.out.size;have hown:=HBB.out.own;have hIq:=HIq.out;go_wp2_with (at_builtin;refine wpList_pushN rfl _ _ _ rfl B 58 3 (by decide) Tryz.underlying29 Tryz.infoNode _ _ rfl hown _ _ _ _ hIq rfl hn hbq ?_);intro v9 w9 hN9 hK9 hA9;have hpne:¬ nv.ownBlock=some p:=own_blk_ne' hown.1 HBB.out.blk (fun e=>hT e.symm);have hMne:¬ nv.ownBlock=some M:=own_map_ne hown.1 HBB.out.map;have hpM:p≠M:=blk_map_ne HBB.out.blk HBB.out.map;have hb9:Blk w9 p T cs:=hK9.blk HBB.out.blk hpne;have hM9:MapA w9 M hs.length D:=hK9.map HBB.out.map hMne;have hO9:OwnB w9 w.heap.size (.slice A7 L c7) (keyB (lv,zs)):=hK9.own HOq.out (fun g hg hv=>own_ne HOq.out hown.1 (by decide) hg hv);obtain⟨A9,c9,hv9,-,-⟩:=hN9.nds;rw[List.length_append,List.length_singleton] at hv9;have hcs:0 < cs.size:=(Array.getElem?_eq_some_iff.1 HBB.out.c0).1;obtain⟨w10,hw10⟩:∃ w10,w10=w9.setCell ⟨p,0,none⟩ v9:=⟨_,rfl⟩
    have hb10:Blk w10 p T (cs.setIfInBounds 0 v9):=by rw[hw10];exact hb9.set_ 0 v9
    have hM10:MapA w10 M hs.length D:=by rw[hw10];exact hM9.setCell (a:=⟨p,0,none⟩) (fun e=>hpM e.symm) v9
    have hK10:Kept (BldS p M nv) wq w10:=by rw[hw10];exact (hK9.mono (S':=BldS p M nv) (fun g _ hg=>Or.inr (Or.inr hg))).setCell (p:=⟨p,0,none⟩) (Or.inl (Or.inl rfl)) v9
    have hplt:p < w.heap.size:=HBL.out.blk.lt;have hO10:OwnB w10 w.heap.size (.slice A7 L c7) (keyB (lv,zs)):=by
     rw[hw10];refine ((Kept.refl (fun g=>g=p) w9).setCell (p:=⟨p,0,none⟩) (Or.inl rfl) v9).own hO9 fun g hg hgp=>?_;have:=(own_lt' hO9 hg).2;subst hgp;omega
    have hN10:OwnNA w10 B v9 (hs ++ [⟨lv,A,c,zs⟩]):=by
     rw[hw10];refine OwnN.kept hN9 ((Kept.refl (fun g=>g=p) w9).setCell (p:=⟨p,0,none⟩) (Or.inl rfl) v9) (fun g hg hgp=>?_) (fun x hx g hg hgp=>?_)
     ·subst hgp;exact own_blk_ne' hN9.1 hb9 (fun e=>hT e.symm) hg
     ·subst hgp;exact own_blk_ne' (hN9.2 x hx) hb9 (fun e=>hT2 e.symm) hg
    obtain⟨w11,hrun,hM11,hg11⟩:=World.ownsMap.update (w:=w10.drew) hM10.drew Tryz.law Tryz.underlying76 (by unfold maxLen;omega) HKY2.out (plainElem_int (q:=.i64) (a:=(hs.length:Int)) Tryz.underlying3 (WalkArith.wf_i64 (by omega)));have hK11:Kept (BldS p M nv) wq w11:=hK10.trans (((Kept.refl _ w10).drew).grown hg11 (fun g hg=>Or.inl (Or.inr (Or.inl (by injection hg with hg;exact hg.symm)))));have hBld:Bld B p M T (cs.setIfInBounds 0 v9) v9 (hs ++ [⟨lv,A,c,zs⟩]) (D.put (.string (keyB (lv,zs))) (.lit (.int .i64 hs.length))) w11:=by
     have hk:Kept (fun g=>g=M) w10.drew w11:=(Kept.refl _ w10.drew).grown hg11 (fun g hg=>Or.inl (by injection hg with hg;exact hg.symm));refine⟨hk.blk (w:=w10.drew) hb10 hpM,?_,?_,OwnN.kept (w:=w10.drew) hN10 hk (fun g hg hgp=>?_) (fun x hx g hg hgp=>?_),?_,?_,HBL.out.bp,HBL.out.bm⟩
     ·simp[hcs]
     ·rw[Array.getElem?_setIfInBounds_ne (by omega)];exact HBB.out.c1
     ·subst hgp;exact own_map_ne hN10.1 hM10 hg
     ·subst hgp;exact own_map_ne (hN10.2 x hx) hM10 hg
     ·rw[List.length_append];exact hM11
     ·rw[List.map_append];have:=HBB.out.known.push HPO.out;rw[List.length_map] at this;exact this
    have HBld:=hid hBld;have hKa:Kept (BldS p M nv) w w11:=(Kept.of_new _ HBq.out).trans hK11;have HKa:=hid hKa;have hcv:∀ n,(convert 95 9 (.slice A7 L c7)).run Tryz.prog (w10.drewN n)=.ok (.string KS) (w10.drewN n):=by
     intro n;have:=back_any (w:=w10.drewN n) (base:=w.heap.size) (A:=A7) (c:=c7) (l:=keyB (lv,zs)) (by rw[← HL.out];exact hO10);rw[← HL.out,← HKSe.out] at this;exact this
    have hc10:w10.cell? ⟨p,0,none⟩=some (.slice A9 (hs.length+1) c9):=by rw[hb10.cell_ 0 v9 (by simp[hcs]),hv9]
    have hc11:w10.cell? ⟨p,1,none⟩=some (.map (some M)):=hb10.cell_ 1 _ (by rw[Array.getElem?_setIfInBounds_ne (by omega)];exact HBB.out.c1);have hf9:=hb9.frozen 0;have hc9:=hb9.cell_ 0 _ HBB.out.c0;have hBl:Blk w11 p T (cs.setIfInBounds 0 v9):=hBld.blk;have hc12:w11.cell? ⟨p,0,none⟩=some (.slice A9 (hs.length+1) c9):=by rw[hBl.cell_ 0 v9 (by simp[hcs]),hv9]
    have hA':v9.ownBlock=nv.ownBlock∨∃ g,v9.ownBlock=some g∧w.heap.size≤g:=hA9.imp id (fun ⟨g,h1,h2⟩=>⟨g,h1,Nat.le_trans HBq.out.size h2⟩);have HA':=hid hA';have hwr:wrap64 ((hs.length:Int)+1 - 1)=hs.length:=by unfold wrap64;omega
    have hwr2:wrap64 (((hs.length+1:Nat):Int) - 1)=hs.length:=by unfold wrap64;omega
    clear hN9 hK9 hA9 hpne hMne hM9 hO9 hb10 hM10 hK10 hO10 hN10 hM11 hg11 hK11 hBld hKa hBl hA' hown hIq hcq0 hcq1 hfq;clear HOq HBB;subst hv9;go_wp2;rw[← hw10];have hcv1:(convert 95 9 (.slice A7 L c7)).run Tryz.prog w10.drew=.ok (.string KS) w10.drew:=hcv 1;clear hw10;go_region
    go_wp2;go_ret;exact⟨_,_,_,_,by rw[HE.out] <;> rfl,HBld.out,by rw[HE.out,List.map_append] <;> rfl,HKa.out,HA'.out,fun i hi=>Array.getElem?_setIfInBounds_ne (by omega),fun x hx=>by
     rcases List.mem_append.1 hx with hx | hx
     ·exact .inl hx
     ·exact .inr (List.mem_singleton.1 hx)⟩
end Go.Proofs.YtlegfdllipkggaaGreatDoor
namespace Go.Proofs.YtlegfdllipkggaaGreatDoor
open Lib(hid)
open Go.RowKit
set_option maxRecDepth 100000
set_option linter.unusedVariables false
set_option linter.unusedSimpArgs false

set_option maxHeartbeats 2000000 in
theorem clone_ints (A:Option Addr)(c:Nat)(zs:List Int)(w:World)(ha:Ints w A zs)(hl:zs.length≤1000000) :
  Calls Tryz.prog 79 #[.slice A zs.length c] w fun e w'=>∃ v,e=.returned v∧OwnI 3 w' w.heap.size v zs∧Below w.heap.size w w':=by
 have q24:∀ (w:World) (a:Option Addr) (n c n' c':Nat),(binOp .eql 38 (.slice a n c) (.slice none n' c')).run Tryz.prog w=.ok (.bool a.isNone) w:=fun w a n c n' c'=>Lib.run_eql_slice_nil w _ _ a n c n' c' Tryz.underlying38;obtain⟨i0,hi,hz0,hz1,hz2⟩:=info_parts Tryz.infoInt;have HA:=hid ha;clear ha;cases A with
 | none=>
  have e:zs=[]:=by
   by_cases h:0 < zs.length
   ·obtain⟨ad,e,_⟩:=HA.out.1.2 h;cases e
   ·exact List.eq_nil_of_length_eq_zero (by omega)
  subst e;go_enter Tryz.func79,Tryz.ntmps79;go_wp2;go_ret;exact⟨_,rfl,OwnI.nil _ _ _,Below.refl _ _⟩
 | some ad=>
  go_enter Tryz.func79,Tryz.ntmps79;go_wp2_with (at_builtin;refine wpList_append_own _ rfl _ _ 38 rfl w.heap.size 3 i0 _ 1 8 Tryz.underlying38 hi hz0 hz1 hz2 rfl (by decide) _ _ _ rfl (World.ownsRow_made w #[] 0 (Nat.le_refl _) (Nat.zero_le _) rfl) ad zs.length c (zs.map (Value.int .i64)) rfl ?qc1 ?qc2 ?qc3 ?qc4 ?qc5 ?qc6 ?_)
  case qc1=>exact HA.out.1.1
  case qc2=>
   intro j u hj;refine Lib.cell?_alloc_some _ ?_;have hn:0 < zs.length:=by
    have h1:=(List.getElem?_eq_some_iff.1 hj).1;have h2:=HA.out.1.1;omega
   obtain⟨ad',e,_,h⟩:=HA.out.1.2 hn;cases e
   exact h j u hj
  case qc3=>intro u hu;obtain⟨z,-,rfl⟩:=List.mem_map.1 hu;rfl
  case qc4=>unfold maxLen;omega
  case qc5=>omega
  case qc6=>simp
  intro v' w1 hown hgrow hnil;go_wp2;go_ret;refine⟨v',rfl,?_,?_⟩
  ·unfold OwnI;simpa using hown
  ·exact ((Below.refl _ w).alloc (Nat.le_refl _) _).grown hgrow (by simp) (by intro k hk;simp[Value.ownBlock] at hk;omega)
set_option maxHeartbeats 2000000 in
theorem clone_pts (A:Option Addr)(c:Nat)(zs:List (Int × Int))(w:World)(ha:Pts w A zs)(hl:zs.length≤1000000) :
  Calls Tryz.prog 81 #[.slice A zs.length c] w fun e w'=>∃ v,e=.returned v∧OwnP 56 w' w.heap.size v zs∧Below w.heap.size w w':=by
 have q24:∀ (w:World) (a:Option Addr) (n c n' c':Nat),(binOp .eql 22 (.slice a n c) (.slice none n' c')).run Tryz.prog w=.ok (.bool a.isNone) w:=fun w a n c n' c'=>Lib.run_eql_slice_nil w _ _ a n c n' c' Tryz.underlying22;obtain⟨i0,hi,hz0,hz1,hz2⟩:=info_parts Tryz.infoPt;have HA:=hid ha;clear ha;cases A with
 | none=>
  have e:zs=[]:=by
   by_cases h:0 < zs.length
   ·obtain⟨ad,e,_⟩:=HA.out.1.2 h;cases e
   ·exact List.eq_nil_of_length_eq_zero (by omega)
  subst e;go_enter Tryz.func81,Tryz.ntmps81;go_wp2;go_ret;exact⟨_,rfl,OwnP.nil _ _ _,Below.refl _ _⟩
 | some ad=>
  go_enter Tryz.func81,Tryz.ntmps81;go_wp2_with (at_builtin;refine wpList_append_own _ rfl _ _ 22 rfl w.heap.size 56 i0 _ 2 16 Tryz.underlying22 hi hz0 hz1 hz2 rfl (by decide) _ _ _ rfl (World.ownsRow_made w #[] 0 (Nat.le_refl _) (Nat.zero_le _) rfl) ad zs.length c (zs.flatMap ptCells) rfl ?qc1 ?qc2 ?qc3 ?qc4 ?qc5 ?qc6 ?_)
  case qc1=>exact HA.out.1.1
  case qc2=>
   intro j u hj;refine Lib.cell?_alloc_some _ ?_;have hn:0 < zs.length:=by
    have h1:=(List.getElem?_eq_some_iff.1 hj).1;have h2:=HA.out.1.1;omega
   obtain⟨ad',e,_,h⟩:=HA.out.1.2 hn;cases e
   exact h j u hj
  case qc3=>intro u hu;obtain⟨z,-,hz⟩:=List.mem_flatMap.1 hu;simp[ptCells] at hz;rcases hz with rfl | rfl <;> rfl
  case qc4=>unfold maxLen;omega
  case qc5=>omega
  case qc6=>simp
  intro v' w1 hown hgrow hnil;go_wp2;go_ret;refine⟨v',rfl,?_,?_⟩
  ·unfold OwnP;simpa using hown
  ·exact ((Below.refl _ w).alloc (Nat.le_refl _) _).grown hgrow (by simp) (by intro k hk;simp[Value.ownBlock] at hk;omega)

def OnlyN (K:Act→World→Prop):Exit→Act→World→Prop
 | .normal,a,w=>K a w
 | _,_,_=>False
theorem OnlyN.not_lets {K:Act→World→Prop}:¬ LetsOut (OnlyN K):=fun ⟨_,_,h⟩=>h
theorem oper_only {P:Program}{o:Oper}{a:Act}{w:World}{K:Act→World→Prop}{Q:Exit→Act→World→Prop}(hh:o.wp P a w K (OnlyN K)):o.wp P a w K Q:=by
 unfold Oper.wp at *;generalize (execOp a.eval o).run P w=r at *;cases r with
 | ok n w'=>
  cases n <;> simp only[Oper.upon] at hh ⊢ <;>
   first
    | exact hh
    | exact Calls.mono hh (fun e w'' he=>by cases e <;> first | exact he | exact (OnlyN.not_lets he).elim | exact (he:False).elim)
 | halt x w'=>cases x <;> simp only[Oper.upon] at hh ⊢ <;> first | exact hh | exact (hh:False).elim
theorem wpOp_of_list {P:Program}{ops:Array Oper}{i:Nat}{o:Oper}{a:Act}{w:World}{K:Act→World→Prop}{Q:Exit→Act→World→Prop}(ho:ops[i]?=some o)
  (h:wpList P ops (OnlyN K) [o] a w):wpOp P ops Q i K a w:=by
 unfold wpOp;rw[ho];simp only;unfold wpList at h
 split
 ·rename_i hw;rw[if_pos hw] at h;rcases h with h | h
  ·exact Or.inl (oper_only h)
  ·exact (OnlyN.not_lets h.2).elim
 ·rename_i hw;rw[if_neg hw] at h;exact h
theorem filter_len_le {α:Type}{p q:α→Bool}:∀ l:List α,(∀ x ∈ l,p x=true→q x=true)→(l.filter p).length≤(l.filter q).length
 | [],_=>Nat.le_refl _
 | x :: l,h=>by
  have ih:=filter_len_le l fun y hy=>h y (List.mem_cons_of_mem _ hy);cases hp:p x
  ·cases hq:q x <;> simp[hp,hq] <;> omega
  ·simp[hp,h x List.mem_cons_self hp];exact ih
theorem filter_len_lt {α:Type}{p q:α→Bool}{i:α}:∀ l:List α,(∀ x ∈ l,p x=true→q x=true)→i ∈ l→p i=false→q i=true→(l.filter p).length < (l.filter q).length
 | [],_,hi,_,_=>by simp at hi
 | x :: l,h,hi,hp,hq=>by
  rcases List.mem_cons.1 hi with rfl | hi
  ·have:=filter_len_le l fun y hy=>h y (List.mem_cons_of_mem _ hy);simp[hp,hq];omega
  ·have ih:=filter_len_lt l (fun y hy=>h y (List.mem_cons_of_mem _ hy)) hi hp hq;cases hpx:p x
   ·cases hqx:q x <;> simp[hpx,hqx] <;> omega
   ·simp[hpx,h x List.mem_cons_self hpx];exact ih
def leftIn (ops:Array Oper)(listed:Array Bool):Nat:=((List.range ops.size).filter fun i=>!listed.getD i true).length
theorem leftIn_set {ops:Array Oper}{listed:Array Bool}{i:Nat}(hi:i < ops.size)(h:listed.getD i true=false):leftIn ops (listed.setIfInBounds i true) < leftIn ops listed:=by
 refine filter_len_lt (i:=i) _ (fun x _ hx=>?_) (by simpa using hi) ?_ (by rw[h];rfl)
 ·by_cases hxi:i=x
  ·subst hxi;rw[h];rfl
  ·rwa [getD_set_ne true hxi] at hx
 ·have hl:i < listed.size:=by
   rcases Nat.lt_or_ge i listed.size with h' | h'
   ·exact h'
   ·simp[Array.getElem?_eq_none h'] at h
  simp[hl]
theorem ready_nil {md:Region.Mode}{ops:Array Oper}{listed:Array Bool}(h:leftIn ops listed=0):Region.ready md ops listed=[]:=by
 apply List.eq_nil_iff_forall_not_mem.2;intro j hj;obtain⟨h0,o,ho,-⟩:=mem_ready.1 hj;have hlt:j < ops.size:=(Array.getElem?_eq_some_iff.1 ho).1;have hn:((List.range ops.size).filter fun i=>!listed.getD i true)=[]:=List.length_eq_zero_iff.1 h;have:j ∈ ((List.range ops.size).filter fun i=>!listed.getD i true):=by
  rw[List.mem_filter];exact⟨by simpa using hlt,by rw[h0];rfl⟩
 rw[hn] at this;cases this
theorem wpAny_J {P:Program}{md:Region.Mode}{ops:Array Oper}{Q:Exit→Act→World→Prop}(J:Array Bool→Act→World→Prop)
  (hstep:∀ i listed a w,i ∈ Region.ready md ops listed→J listed a w→wpOp P ops Q i (J (listed.setIfInBounds i true)) a w)
  (hdone:∀ listed a w,Region.ready md ops listed=[]→J listed a w→Q .normal a w) :
  ∀ fuel listed a w,leftIn ops listed≤fuel→J listed a w→wpAny P md ops Q fuel listed a w
 | 0,listed,a,w,hl,hJ=>by
  have hr:=ready_nil (md:=md) (Nat.le_zero.1 hl);exact⟨hr,hdone _ _ _ hr hJ⟩
 | fuel+1,listed,a,w,hl,hJ=>by
  refine⟨fun hr=>hdone _ _ _ hr hJ,fun i hi=>?_⟩;obtain⟨h0,o,ho,-⟩:=mem_ready.1 hi;have hlt:i < ops.size:=(Array.getElem?_eq_some_iff.1 ho).1;have hs:=leftIn_set (ops:=ops) hlt h0;exact wpOp_mono (fun a' w' h'=>wpAny_J J hstep hdone fuel _ a' w' (by omega) h') (hstep i listed a w hi hJ)
theorem leftIn_le (ops:Array Oper)(listed:Array Bool):leftIn ops listed≤ops.size:=by
 unfold leftIn;refine Nat.le_trans (List.length_filter_le _ _) ?_
 simp
theorem wp_region_J {P:Program}{id:Nat}{ops:Array Oper}{Q:Exit→Act→World→Prop}{a:Act}{w:World}(hm:P.follows .mixedOrders=true)(J:Array Bool→Act→World→Prop)
  (h0:J (Array.replicate ops.size false) a w.drew)
  (hstep:∀ i listed a w,i ∈ Region.ready .any ops listed→J listed a w→wpOp P ops Q i (J (listed.setIfInBounds i true)) a w)
  (hdone:∀ listed a w,Region.ready .any ops listed=[]→J listed a w→Q .normal a w) :
  (Code.region id ops true).wp P Q a w:=
 wp_region_any hm (wpAny_J J hstep hdone _ _ _ _ (leftIn_le _ _) h0)
theorem OnlyN.mk {K:Act→World→Prop}{a:Act}{w:World}(h:K a w):OnlyN K .normal a w:=h
theorem wpOp_hidden {P:Program}{ops:Array Oper}{i:Nat}{o:Oper}{a:Act}{w:World}{J:Act→World→Prop}{Q:Exit→Act→World→Prop}(ho:ops[i]?=some o)
  (h:∀ K:Act→World→Prop,Hid (∀ a w,J a w→K a w)→wpList P ops (OnlyN K) [o] a w):wpOp P ops Q i J a w:=wpOp_of_list ho (h J (hid fun _ _ x=>x))
end Go.Proofs.YtlegfdllipkggaaGreatDoor
