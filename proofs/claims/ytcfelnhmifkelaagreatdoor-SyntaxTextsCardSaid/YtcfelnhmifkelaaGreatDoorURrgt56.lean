/-
  texts Rrgt56: parts of the proof; conditions stand with each theorem.
-/
import Derived.Test.YtcfelnhmifkelaaGreatDoorUG22
import Derived.Test.YtcfelnhmifkelaaGreatDoorUG18
import Derived.Test.YtcfelnhmifkelaaGreatDoorUG16
import Derived.Test.YtcfelnhmifkelaaGreatDoorUG20
import Derived.Test.YtcfelnhmifkelaaGreatDoorUG23
import Derived.Test.YtcfelnhmifkelaaGreatDoorURight56
import Derived.BigRegion
import Derived.BigQuiet
import Derived.Test.YtcfelnhmifkelaaGreatDoorUG0
import Derived.Lib.QuietBelow
namespace Go.Proofs.YtcfelnhmifkelaaGreatDoor
open Lib(hid)
open Go.RowKit
set_option maxRecDepth 100000
set_option linter.unusedVariables false
set_option linter.unusedSimpArgs false
def finO (c:Cmd):Option (Cmd × Bool)→Bool
 | none=>false
 | some (o,b)=>rendB o c b
theorem rrgt_fin (c:Cmd):rrightP c=if formR c.kind=[] then false else finO c (rrTo (formR c.kind) c { cmd0 with kind:=c.kind } false):=by
 unfold rrightP finO
 split <;> rfl
theorem rrTo_at {fs:List (List UInt8)} {k:Nat}(h1:k < fs.length)(c o:Cmd)(b:Bool):rrTo (fs.drop k) c o b=if (slotR fs[k]).k=1∨(slotR fs[k]).k=2 then (if badName (slotR fs[k]) c.name=true then none else rrTo (fs.drop (k+1)) c { o with name:=c.name } b) else if (slotR fs[k]).k=3 then rrTo (fs.drop (k+1)) c o true else if (slotR fs[k]).k=4 then (if c.get (slotR fs[k]).fld < (slotR fs[k]).lo∨(slotR fs[k]).hi < c.get (slotR fs[k]).fld then none else rrTo (fs.drop (k+1)) c (o.set (slotR fs[k]).fld (c.get (slotR fs[k]).fld)) b) else rrTo (fs.drop (k+1)) c o b:=by
 conv=>lhs;rw[List.drop_eq_getElem_cons h1]
 rfl
theorem rrTo_end (c o:Cmd)(b:Bool):rrTo [] c o b=some (o,b):=by unfold rrTo;rfl
theorem Ob.trans {g:Nat}{a b w:World}(h:Ob g a b)(k:Ob g b w):Ob g a w:=
 ⟨k.os.trans h.os,k.tape.trans h.tape,k.output.trans h.output,Nat.le_trans h.size k.size,fun j hj hn=>(k.block j (Nat.lt_of_lt_of_le hj h.size) hn).trans (h.block j hj hn)⟩
theorem Ob.drew {g:Nat}{a w:World}(h:Ob g a w):Ob g a w.drew:=only_drew h
theorem wpOp_skip {P:Program}{ops:Array Oper}{i:Nat}{o:Oper}{a:Act}{w:World}{K:Act→World→Prop}{Q:Exit→Act→World→Prop}(ho:ops[i]?=some o)(hw:Region.wanted o (yielded ops a.tmps)=false) (h:K (a.put o.dst undef) w):wpOp P ops Q i K a w:=by
 unfold wpOp;rw[ho];simp only;rw[if_neg (by rw[hw];exact Bool.false_ne_true)];exact h
structure RG18 (W:World)(p5:Nat)(fbb fbo:Nat)(fl fc k:Nat)(z:ByteArray)(o c c2:Cmd)(nmo nmc nm2:ByteArray)(A:Option Addr)(n cap:Nat)(g:Int)(b0 b1 b2 b3 b4 b5 b6 b7 b8 b9 b10 b11 b12:Bool)(v102 v103 v104 v105 v106 v107 v108 v109 v110 v111 v112 v113:Value)(w:World):Prop where
 h0:b0=true→v102=.agg #[.int .i64 o.kind,.int .i64 o.x,.int .i64 o.y,.int .i64 o.n,.int .i64 o.m,.string (nmo),.slice none 0 0,.int .i64 o.p,.int .i64 o.dx,.int .i64 o.dy]
 h1:b1=true→v103=.slice (some ⟨fbb,fbo,none⟩) fl fc
 h2:b2=true→v104=.int .i64 k
 h3:b3=true→v105=.pointer (some ⟨fbb,fbo+k,none⟩)
 h4:b4=true→v106=.string z
 h5:b5=true→v107=.agg #[.int .i64 c.kind,.int .i64 c.x,.int .i64 c.y,.int .i64 c.n,.int .i64 c.m,.string (nmc),.slice A n cap,.int .i64 c.p,.int .i64 c.dx,.int .i64 c.dy]
 h6:b6=true→v108=.slice (some ⟨fbb,fbo,none⟩) fl fc
 h7:b7=true→v109=.int .i64 k
 h8:b8=true→v110=.pointer (some ⟨fbb,fbo+k,none⟩)
 h9:b9=true→v111=.string z
 h10:b10=true→v112=.int .i64 g
 h11:b11=true→v113=.agg #[.int .i64 c2.kind,.int .i64 c2.x,.int .i64 c2.y,.int .i64 c2.n,.int .i64 c2.m,.string (nm2),.slice none 0 0,.int .i64 c2.p,.int .i64 c2.dx,.int .i64 c2.dy]
 ob:Ob p5 W w
 s11:b11=true→b0=true
 s12:b12=true→b0=true
 blk:b12=false→Blk w p5 34 (cmdB o (.slice none 0 0))
 blk2:b12=true→Blk w p5 34 (cmdB c2 (.slice none 0 0))
section
variable {W : World} {p5 : Nat} {fbb fbo : Nat} {fl fc k : Nat} {z : ByteArray} {o c c2 : Cmd} {nmo nmc nm2 : ByteArray} {A : Option Addr} {n cap : Nat} {g : Int} {b0 b1 b2 b3 b4 b5 b6 b7 b8 b9 b10 b11 b12 : Bool} {v102 v103 v104 v105 v106 v107 v108 v109 v110 v111 v112 v113 : Value} {w w' : World}
theorem RG18.world (H:RG18 W p5 fbb fbo fl fc k z o c c2 nmo nmc nm2 A n cap g b0 b1 b2 b3 b4 b5 b6 b7 b8 b9 b10 b11 b12 v102 v103 v104 v105 v106 v107 v108 v109 v110 v111 v112 v113 w)(hb:Below w.heap.size w w'):RG18 W p5 fbb fbo fl fc k z o c c2 nmo nmc nm2 A n cap g b0 b1 b2 b3 b4 b5 b6 b7 b8 b9 b10 b11 b12 v102 v103 v104 v105 v106 v107 v108 v109 v110 v111 v112 v113 w':=
 {H with ob:=H.ob.below hb,blk:=fun h=>(H.blk h).below hb (H.blk h).lt,blk2:=fun h=>(H.blk2 h).below hb (H.blk2 h).lt }
end
structure RGt (W:World)(g:Nat)(A:Option Addr)(n cap:Nat)(hs:List Cel)(sm:Bool)(b0 b1 b2 b3 b4 b5 b6 b7 b8 b9 b10 b11 b12 b13 b14 b15 b16 b17 b18 b19 b20 b21 b22 b23 b24 b25:Bool)(v114 v115 v116 v117 v118 v119 v120 v121 v122 v123 v124 v125 v126 v127 v128 v129 v130 v131 v132 v133 v134 v135 v136 v137 v138 v139:Value)(w:World):Prop where
 h0:b0=true→v114=.bool true
 h1:b1=true→v115=.bool true
 h2:b2=true→v116=.pointer (some ⟨g,6,none⟩)
 h3:b3=true→v117=.slice A n cap
 h4:b4=true→v118=.bool true
 h5:b5=true→v119=.bool false
 h6:b6=true→v120=.bool false
 h7:b7=true→v121=.pointer (some ⟨g,6,none⟩)
 h8:b8=true→v122=.slice A n cap
 h10:b10=true→v124=.pointer (some ⟨g,6,none⟩)
 h11:b11=true→v125=.slice A n cap
 h12:b12=true→v126=.bool sm
 h13:b13=true→v127=.bool (!sm)
 h14:b14=true→v128=.bool (!sm)
 h15:b15=true→v129=.bool (!sm)
 h16:b16=true→v130=.bool (!sm)
 h17:b17=true→v131=(if sm then .bool true else undef)
 h18:b18=true→v132=(if sm then .bool false else undef)
 h19:b19=true→v133=(if sm then .bool false else undef)
 h20:b20=true→v134=undef
 h21:b21=true→v135=undef
 h22:b22=true→v136=undef
 h23:b23=true→v137=undef
 h24:b24=true→v138=(if sm then .bool false else undef)
 h25:b25=true→v139=.bool (!sm)
 below:Below W.heap.size W w
 t9:b9=true→∃ A6 c6,v123=.slice A6 hs.length c6∧Cls w A6 hs
section
variable {W : World} {g : Nat} {A : Option Addr} {n cap : Nat} {hs : List Cel} {sm : Bool} {b0 b1 b2 b3 b4 b5 b6 b7 b8 b9 b10 b11 b12 b13 b14 b15 b16 b17 b18 b19 b20 b21 b22 b23 b24 b25 : Bool} {v114 v115 v116 v117 v118 v119 v120 v121 v122 v123 v124 v125 v126 v127 v128 v129 v130 v131 v132 v133 v134 v135 v136 v137 v138 v139 : Value} {w w' : World}
theorem RGt.world (H:RGt W g A n cap hs sm b0 b1 b2 b3 b4 b5 b6 b7 b8 b9 b10 b11 b12 b13 b14 b15 b16 b17 b18 b19 b20 b21 b22 b23 b24 b25 v114 v115 v116 v117 v118 v119 v120 v121 v122 v123 v124 v125 v126 v127 v128 v129 v130 v131 v132 v133 v134 v135 v136 v137 v138 v139 w)(hb:Below w.heap.size w w'):RGt W g A n cap hs sm b0 b1 b2 b3 b4 b5 b6 b7 b8 b9 b10 b11 b12 b13 b14 b15 b16 b17 b18 b19 b20 b21 b22 b23 b24 b25 v114 v115 v116 v117 v118 v119 v120 v121 v122 v123 v124 v125 v126 v127 v128 v129 v130 v131 v132 v133 v134 v135 v136 v137 v138 v139 w':=
 {H with below:=H.below.trans (hb.mono H.below.size),t9:=fun h=>(by obtain⟨a,k,e,i⟩:=H.t9 h;exact⟨a,k,e,i.ext hb⟩) }
end
set_option maxHeartbeats 32000000 in
theorem rrgt56_any (c:Cmd)(A:Option Addr)(cap:Nat)(w:World)(hc:Cls w A c.cells)(hn:c.name.length≤1000000) :
  Calls Tryz.prog 17 #[cmdV c (nmV c) (.slice A c.cells.length cap)] w fun e w'=>e=.returned (.bool (rightP c))∧Below w.heap.size w w':=by
 rw[← rright_eq];obtain⟨rb,hrb⟩:∃ b,b=rrightP c:=⟨_,rfl⟩
 rw[← hrb];have HRB:=hid (hrb.trans (rrgt_fin c));have HCL:=hid hc;have HNL:=hid hn;clear hrb hc hn;unfold cmdV;obtain⟨w1,hw1⟩:∃ W,W=w.alloc (.cells #[.int .i64 c.kind,.int .i64 c.x,.int .i64 c.y,.int .i64 c.n,.int .i64 c.m,.string (nmV c),.slice A c.cells.length cap,.int .i64 c.p,.int .i64 c.dx,.int .i64 c.dy] 34):=⟨_,rfl⟩
 have hk1:Blk w1 w.heap.size 34 #[.int .i64 c.kind,.int .i64 c.x,.int .i64 c.y,.int .i64 c.n,.int .i64 c.m,.string (nmV c),.slice A c.cells.length cap,.int .i64 c.p,.int .i64 c.dx,.int .i64 c.dy]:=by rw[hw1];exact Blk.new _ _ _
 have hb1:Below w.heap.size w w1:=by rw[hw1];exact below_new _ _
 have x0:w1.cell? ⟨w.heap.size,0,none⟩=some (.int .i64 c.kind):=hk1.cell_ 0 _ rfl;have HF:=hid (rform_any c.kind w1);go_enter Tryz.func17,Tryz.ntmps17;go_upto_region 1 with fail
 rw[← hw1];clear hw1;have HK1:=hid hk1;have HB1:=hid hb1;clear hk1 hb1;go_wp2_with (go_at_call 37;refine HF.out.mono ?_;rintro e w2 ⟨FA,fc,rfl,hfs,hfn,hb2⟩;refine Hid.out ?_);refine hid ?_;have HP2:=hid (HK1.out.below hb2 HK1.out.lt);have HB2:=hid (HB1.out.trans (hb2.mono HB1.out.size));clear x0 HF;obtain⟨fs,hf⟩:∃ x,x=formR c.kind:=⟨_,rfl⟩
 rw[← hf] at HRB hfs ⊢;have HFF:=hid hf;obtain⟨fb,hfb⟩:∃ x,x=baL fs:=⟨_,rfl⟩
 rw[← hfb] at hfs ⊢;have HFB:=hid hfb;have HFL:Hid (fb.length=fs.length):=hid (by rw[hfb,baL_len]);have HFS:=hid hfs;have HFN:=hid hfn;clear hfs hfn hfb hf HK1 HB1 hb2;by_cases h0:fb.length=0
 ·have d0:((fb.length:Int) == 0)=true:=by rw[h0];rfl
  have HN:Hid (rb=false):=hid (by rw[HRB.out,if_pos (List.length_eq_zero_iff.1 (by rw[← HFL.out];exact h0))]);have HBW:=HB2;clear h0;go_wp2;go_ret;exact⟨ret_b56 HN.out.symm,HBW.out⟩
 ·have d0:((fb.length:Int) == 0)=false:=beq_false_of_ne (by omega);have HFO:Hid (∀ ad,FA=some ad→ad.block≠w2.heap.size):=hid (fun ad e=>by
   obtain⟨b,o,e2,-,cf⟩:=HFS.out.at_ (k:=0) (by omega);have:=World.block_lt_of_cell? _ _ cf;rw[e2] at e;injection e with e
   rw[← e];show b≠_;have h:b < w2.heap.size:=this;omega)
  have HNE:Hid (fs≠[]):=hid (fun e=>h0 (by rw[HFL.out,e];rfl));have HR1:Hid (rb=finO c (rrTo fs c { cmd0 with kind:=c.kind } false)):=hid (by rw[HRB.out,if_neg HNE.out]);have x0:w2.cell? ⟨w.heap.size,0,none⟩=some (.int .i64 c.kind):=HP2.out.cell_ 0 _ rfl;clear h0 HRB;go_upto_region 7 with fail
  obtain⟨w5,hw5⟩:∃ W,w2.alloc (.cells #[.int .i64 c.kind,.int .i64 0,.int .i64 0,.int .i64 0,.int .i64 0,.string ⟨#[]⟩,.slice none 0 0,.int .i64 0,.int .i64 0,.int .i64 0] 34)=W:=⟨_,rfl⟩
  obtain⟨p5,hp5⟩:∃ p,w2.heap.size=p:=⟨_,rfl⟩
  have hk5:Blk w5 p5 34 (cmdB { cmd0 with kind:=c.kind } (.slice none 0 0)):=by rw[← hw5,← hp5];exact Blk.new w2 34 _
  have hb5:Below w2.heap.size w2 w5:=by rw[← hw5];exact below_new w2 _
  have HP5:Hid (w2.heap.size≤p5):=hid (Nat.le_of_eq hp5);have HK5:=hid hk5;have HB5:=hid hb5;have HPL5:Hid (w2.heap.size≤w5.heap.size):=hid hb5.size;have HFN5:Hid (∀ ad,FA=some ad→ad.block≠p5):=hid (by rw[← hp5];exact HFO.out);have HFS5:=hid (HFS.out.ext hb5);have HF9:Hid (fs.length≤9):=hid (by
   have:=HFF.out;rcases kind_in c.kind with ⟨h,-⟩ | ⟨h,-⟩
   ·rw[this];exact few_words h
   ·rw[this,h];decide)
  have HKM:Hid (c.kind ∈ kinds12):=hid (by
   rcases kind_in c.kind with ⟨h,-⟩ | ⟨h,-⟩
   ·exact h
   ·exact absurd (HFF.out.trans h) HNE.out)
  rw[hw5,hp5];clear hw5 hp5 hk5 hb5 x0 HFS HFN HFO d0;obtain⟨rr,hrr⟩:∃ x,x=rrTo fs c { cmd0 with kind:=c.kind } false:=⟨_,rfl⟩
  rw[← hrr] at HR1;have HRR:=hid hrr;clear hrr;go_loopw [5,6] (fun bv iv wr=>∃ (k:Nat) (b:Bool) (o:Cmd),k≤fb.length∧iv=.int .i64 k∧bv=.bool b∧Hid (Ob p5 w5 wr)∧Hid (Blk wr p5 34 (cmdB o (.slice none 0 0)))∧Hid (o.cells=[]∧rrTo (fs.drop k) c o b=rr)) (fun _ iv _=>fb.length - (intOf iv).toNat)
  case atStart=>exact⟨0,false,_,Nat.zero_le _,rfl,rfl,hid (Ob.refl _ _),HK5,hid ⟨rfl,HRR.out.symm⟩⟩
  case round=>
   clear HK5 HRR;obtain⟨k,b,o,hk,rfl,rfl,HBq,HKC,HT⟩:=hrel;have hwk:wrap64 ((k:Int)+1)=(k:Int)+1:=by have:=HFL.out;have:=HF9.out;unfold wrap64;omega
   have HBX:=hid (HB5.out.trans (HBq.out.low (B:=w2.heap.size) HP5.out HPL5.out));have HBW:=hid (HB2.out.trans (HBX.out.mono HB2.out.size));have HKP:=hid (HP2.out.below HBX.out HP2.out.lt);by_cases hlt:k < fb.length
   ·have hkf:k < fs.length:=by have:=HFL.out;omega
    obtain⟨fbb,fbo,rfl,hfl,cf⟩:=(HBq.out.sts HFS5.out HFN5.out).at_ hlt;have HFX:Hid (fbb≠p5):=hid (HFN5.out _ rfl);have hzf:(fb[k]'hlt)=⟨(fs[k]'hkf).toArray⟩:=by have:=HFB.out;subst this;exact baL_at hlt hkf
    have hwf:=word_facts c.kind HKM.out (fs[k]'hkf) (by rw[← HFF.out];exact List.getElem_mem hkf);have hat:=rrTo_at hkf c o b;rw[HT.out.2] at hat;obtain⟨f,hf⟩:∃ f,f=fs[k]'hkf:=⟨_,rfl⟩
    rw[← hf] at hzf hwf hat;have HNM:Hid (f ∈ formR c.kind):=hid (by rw[hf,← HFF.out];exact List.getElem_mem hkf);obtain⟨z,hz⟩:∃ z,z=fb[k]'hlt:=⟨_,rfl⟩
    rw[← hz] at cf hzf;have HOC:Hid (o.cells=[]):=hid HT.out.1;have HAT:=hid hat;have HLT:=hid hlt;have HWF:=hid hwf;have HZF:=hid hzf;have hzl:z.data.toList=f:=by rw[hzf]
    have dz82:=str_eq56 z [82];have dz78:=str_eq56 z [78];have dz67:=str_eq56 z [67];rw[hzl] at dz82 dz78 dz67;have hz0:0 < z.size:=by have:=HWF.out.2.1;rw[HZF.out];show 0 < f.toArray.size;simpa using this
    obtain⟨nb,hnb⟩:∃ b,b=nmcB f:=⟨_,rfl⟩
    have HNU:Hid (∀ W,Calls Tryz.prog 39 #[.string z] W fun e w'=>e=.returned (.bool nb)∧W=w'):=hid (fun W=>by
     have h:=numeric_any z W hz0;rw[hzl,← hnb] at h;exact h)
    have HCF:=hid cf;have HNB:=hid hnb;clear hf hz hat hwf hzf hzl hz0 hnb HT;by_cases h82:f=[82]
    ·rw[decide_eq_true h82] at dz82;rw[decide_eq_false (by rw[h82];decide)] at dz78 dz67;have hat:=HAT.out;have hkw:(slotR f).k=1:=of_decide_eq_true (by rw[HWF.out.2.2.1];exact decide_eq_true h82);have hnb:nb=false:=by rw[HNB.out,h82];decide
     subst hnb;rw[if_pos (by omega)] at hat;have HATN:=hid hat;have x5:wr.cell? ⟨w.heap.size,5,none⟩=some (.string (nmV c)):=HKP.out.cell_ 5 _ rfl;have c5:=HKC.out.cell_ 5 _ rfl;have f5:=HKC.out.frozen 5;obtain⟨w6,hw6⟩:∃ W,wr.setCell ⟨p5,5,none⟩ (.string (nmV c))=W:=⟨_,rfl⟩
     have HKC6:Hid (Blk w6 p5 34 (cmdB { o with name:=c.name } (.slice none 0 0))):=hid (by rw[← hw6];exact HKC.out.set_ 5 (.string (nmV c)));have HB6:Hid (Ob p5 w5 w6):=hid (by rw[← hw6];exact HBq.out.set 5 _);have hob:Ob p5 wr w6:=by rw[← hw6];exact (Ob.refl p5 wr).set 5 _
     have cf6:=World.grownBy.cell hob HCF.out (fun e=>by injection e with e;exact HFX.out e);have HKP6:=hid (hob.blk HKP.out (by have h1:=HP5.out;have h2:=HP2.out.lt;omega));have HCF6:=hid cf6;go_upto_region 11 with fail
     clear hw6 hob x5 c5 f5 cf HCF HKP HKC HBq HBX HAT HWF h82 hat cf6;have cf6:=HCF6.out;have x5:w6.cell? ⟨w.heap.size,5,none⟩=some (.string (nmV c)):=HKP6.out.cell_ 5 _ rfl;have hC:=rrule_any (nmV c) w6 (by have:=HNL.out;rw[nmV_data];omega);rw[nmV_data] at hC;have HC:=hid hC;clear hC;go_wp2_with (go_at_call 46;refine HC.out.mono ?_;intro e w7 hx;obtain⟨rfl,hb7⟩:=hx;refine Hid.out ?_);refine hid ?_;have HB7:=hid (HB6.out.below hb7);have HBX7:=hid (HB5.out.trans (HB7.out.low (B:=w2.heap.size) HP5.out HPL5.out));have HBW7:=hid (HB2.out.trans (HBX7.out.mono HB2.out.size));have cf7:=(hb7.cell (World.block_lt_of_cell? _ _ cf6)).trans cf6;have HKC7:=hid (HKC6.out.below hb7 HKC6.out.lt);clear hb7 HC cf6 HCF6 HKC6 HB6 x5;obtain⟨bv,hbv⟩:∃ b,b=ruleV c.name:=⟨_,rfl⟩
     rw[← hbv];cases bv with
     | true=>
      have HBN0:badName (slotR f) c.name=false:=by unfold badName;rw[hkw,← hbv];rfl
      have HN:Hid ({ o with name:=c.name }.cells=[]∧rrTo (fs.drop (k+1)) c { o with name:=c.name } b=rr):=hid ⟨HOC.out,by rw[HATN.out,if_neg (by rw[HBN0];exact Bool.false_ne_true)]⟩;clear hbv hkw HBN0;cases b with
      | true=>
       go_wp2_with (go_at_call 39;refine (HNU.out _).mono ?_;rintro e wx ⟨rfl,hw⟩;rw[← hw];clear hw;refine Hid.out ?_);refine hid ?_;go_wp2;go_roundw
       case rel=>exact⟨k+1,true,_,HLT.out,(by first | rfl | (rw[hwk];rfl)),rfl,HB7,HKC7,HN⟩
       case measure=>(try rw[hwk]);exact meas_step5b HLT.out
      | false=>
       go_wp2_with (go_at_call 39;refine (HNU.out _).mono ?_;rintro e wx ⟨rfl,hw⟩;rw[← hw];clear hw;refine Hid.out ?_);refine hid ?_;go_wp2;go_roundw
       case rel=>exact⟨k+1,false,_,HLT.out,(by first | rfl | (rw[hwk];rfl)),rfl,HB7,HKC7,HN⟩
       case measure=>(try rw[hwk]);exact meas_step5b HLT.out
     | false=>
      have HBN0:badName (slotR f) c.name=true:=by unfold badName;rw[hkw,← hbv];rfl
      have HN:Hid (rb=false):=hid (by rw[HR1.out,HATN.out,if_pos HBN0];rfl);have HBW:=HBW7;clear hbv hkw HBN0;go_wp2;go_ret;exact⟨ret_b56 HN.out.symm,HBW.out⟩
    ·rw[decide_eq_false h82] at dz82;have hk1:(slotR f).k≠1:=by have:=HWF.out.2.2.1;rw[decide_eq_false h82] at this;exact of_decide_eq_false this
     by_cases h78:f=[78]
     ·rw[decide_eq_true h78] at dz78;rw[decide_eq_false (by rw[h78];decide)] at dz67;have hat:=HAT.out;clear h82 hk1;have hkw:(slotR f).k=2:=of_decide_eq_true (by rw[HWF.out.2.2.2.1];exact decide_eq_true h78);have hnb:nb=false:=by rw[HNB.out,h78];decide
      subst hnb;rw[if_pos (by omega)] at hat;have HATN:=hid hat;have x5:wr.cell? ⟨w.heap.size,5,none⟩=some (.string (nmV c)):=HKP.out.cell_ 5 _ rfl;have c5:=HKC.out.cell_ 5 _ rfl;have f5:=HKC.out.frozen 5;obtain⟨w6,hw6⟩:∃ W,wr.setCell ⟨p5,5,none⟩ (.string (nmV c))=W:=⟨_,rfl⟩
      have HKC6:Hid (Blk w6 p5 34 (cmdB { o with name:=c.name } (.slice none 0 0))):=hid (by rw[← hw6];exact HKC.out.set_ 5 (.string (nmV c)));have HB6:Hid (Ob p5 w5 w6):=hid (by rw[← hw6];exact HBq.out.set 5 _);have hob:Ob p5 wr w6:=by rw[← hw6];exact (Ob.refl p5 wr).set 5 _
      have cf6:=World.grownBy.cell hob HCF.out (fun e=>by injection e with e;exact HFX.out e);have HKP6:=hid (hob.blk HKP.out (by have h1:=HP5.out;have h2:=HP2.out.lt;omega));have HCF6:=hid cf6;go_upto_region 11 with fail
      clear hw6 hob x5 c5 f5 cf HCF HKP HKC HBq HBX HAT HWF h78 hat cf6;have cf6:=HCF6.out;have x5:w6.cell? ⟨w.heap.size,5,none⟩=some (.string (nmV c)):=HKP6.out.cell_ 5 _ rfl;have hC:=(rname_any (nmV c) w6 (by have:=HNL.out;rw[nmV_data];omega)).mono (fun e w' h=>(⟨h.1,by rw[h.2];exact Below.refl _ _⟩:_∧Below w6.heap.size w6 w'));rw[nmV_data] at hC;have HC:=hid hC;clear hC;go_wp2_with (go_at_call 47;refine HC.out.mono ?_;intro e w7 hx;obtain⟨rfl,hb7⟩:=hx;refine Hid.out ?_);refine hid ?_;have HB7:=hid (HB6.out.below hb7);have HBX7:=hid (HB5.out.trans (HB7.out.low (B:=w2.heap.size) HP5.out HPL5.out));have HBW7:=hid (HB2.out.trans (HBX7.out.mono HB2.out.size));have cf7:=(hb7.cell (World.block_lt_of_cell? _ _ cf6)).trans cf6;have HKC7:=hid (HKC6.out.below hb7 HKC6.out.lt);clear hb7 HC cf6 HCF6 HKC6 HB6 x5;obtain⟨bv,hbv⟩:∃ b,b=nmW c.name:=⟨_,rfl⟩
      rw[← hbv];cases bv with
      | true=>
       have HBN0:badName (slotR f) c.name=false:=by unfold badName;rw[hkw,← hbv];rfl
       have HN:Hid ({ o with name:=c.name }.cells=[]∧rrTo (fs.drop (k+1)) c { o with name:=c.name } b=rr):=hid ⟨HOC.out,by rw[HATN.out,if_neg (by rw[HBN0];exact Bool.false_ne_true)]⟩;clear hbv hkw HBN0;cases b with
       | true=>
        go_wp2_with (go_at_call 39;refine (HNU.out _).mono ?_;rintro e wx ⟨rfl,hw⟩;rw[← hw];clear hw;refine Hid.out ?_);refine hid ?_;go_wp2;go_roundw
        case rel=>exact⟨k+1,true,_,HLT.out,(by first | rfl | (rw[hwk];rfl)),rfl,HB7,HKC7,HN⟩
        case measure=>(try rw[hwk]);exact meas_step5b HLT.out
       | false=>
        go_wp2_with (go_at_call 39;refine (HNU.out _).mono ?_;rintro e wx ⟨rfl,hw⟩;rw[← hw];clear hw;refine Hid.out ?_);refine hid ?_;go_wp2;go_roundw
        case rel=>exact⟨k+1,false,_,HLT.out,(by first | rfl | (rw[hwk];rfl)),rfl,HB7,HKC7,HN⟩
        case measure=>(try rw[hwk]);exact meas_step5b HLT.out
      | false=>
       have HBN0:badName (slotR f) c.name=true:=by unfold badName;rw[hkw,← hbv];rfl
       have HN:Hid (rb=false):=hid (by rw[HR1.out,HATN.out,if_pos HBN0];rfl);have HBW:=HBW7;clear hbv hkw HBN0;go_wp2;go_ret;exact⟨ret_b56 HN.out.symm,HBW.out⟩
     ·rw[decide_eq_false h78] at dz78;have hk2:(slotR f).k≠2:=by have:=HWF.out.2.2.2.1;rw[decide_eq_false h78] at this;exact of_decide_eq_false this
      have hat:=HAT.out;rw[if_neg (by omega)] at hat;by_cases h67:f=[67]
      ·have hk3:(slotR f).k=3:=of_decide_eq_true (by rw[HWF.out.2.2.2.2];exact decide_eq_true h67);rw[decide_eq_true h67] at dz67;have hnb:nb=false:=by rw[HNB.out,h67];decide
       subst hnb;have HN:Hid (o.cells=[]∧rrTo (fs.drop (k+1)) c o true=rr):=hid ⟨HOC.out,by rw[hat,if_pos hk3]⟩;clear h82 hk1 h78 hk2 hat h67 hk3 HAT;cases b with
       | true=>
        go_wp2_with (go_at_call 39;refine (HNU.out _).mono ?_;rintro e wx ⟨rfl,hw⟩;rw[← hw];clear hw;refine Hid.out ?_);refine hid ?_;go_wp2;go_roundw
        case rel=>exact⟨k+1,true,_,HLT.out,(by first | rfl | (rw[hwk];rfl)),rfl,HBq,HKC,HN⟩
        case measure=>(try rw[hwk]);exact meas_step5b HLT.out
       | false=>
        go_wp2_with (go_at_call 39;refine (HNU.out _).mono ?_;rintro e wx ⟨rfl,hw⟩;rw[← hw];clear hw;refine Hid.out ?_);refine hid ?_;go_wp2;go_roundw
        case rel=>exact⟨k+1,true,_,HLT.out,(by first | rfl | (rw[hwk];rfl)),rfl,HBq,HKC,HN⟩
        case measure=>(try rw[hwk]);exact meas_step5b HLT.out
      ·rw[decide_eq_false h67] at dz67;have hk3:(slotR f).k≠3:=by have:=HWF.out.2.2.2.2;rw[decide_eq_false h67] at this;exact of_decide_eq_false this
       rw[if_neg hk3] at hat;cases nb with
       | false=>
        have hk4:(slotR f).k≠4:=of_decide_eq_false (by rw[HWF.out.1];exact HNB.out.symm);rw[if_neg hk4] at hat;have HN:Hid (o.cells=[]∧rrTo (fs.drop (k+1)) c o b=rr):=hid ⟨HOC.out,hat.symm⟩;clear h82 hk1 h78 hk2 hat h67 hk3 hk4 HAT;cases b with
        | true=>
         go_wp2_with (go_at_call 39;refine (HNU.out _).mono ?_;rintro e wx ⟨rfl,hw⟩;rw[← hw];clear hw;refine Hid.out ?_);refine hid ?_;go_wp2;go_roundw
         case rel=>exact⟨k+1,true,_,HLT.out,(by first | rfl | (rw[hwk];rfl)),rfl,HBq,HKC,HN⟩
         case measure=>(try rw[hwk]);exact meas_step5b HLT.out
        | false=>
         go_wp2_with (go_at_call 39;refine (HNU.out _).mono ?_;rintro e wx ⟨rfl,hw⟩;rw[← hw];clear hw;refine Hid.out ?_);refine hid ?_;go_wp2;go_roundw
         case rel=>exact⟨k+1,false,_,HLT.out,(by first | rfl | (rw[hwk];rfl)),rfl,HBq,HKC,HN⟩
         case measure=>(try rw[hwk]);exact meas_step5b HLT.out
       | true=>
        have hk4:(slotR f).k=4:=of_decide_eq_true (by rw[HWF.out.1];exact HNB.out.symm);rw[if_pos hk4] at hat;have HATN:=hid hat;have hnw:=num_words HKM.out HNM.out HNB.out.symm;clear h82 hk1 h78 hk2 hat h67 hk3 hk4 HAT;obtain⟨lo,hlo⟩:∃ x,x=(slotR f).lo:=⟨_,rfl⟩
        obtain⟨hi,hhi⟩:∃ x,x=(slotR f).hi:=⟨_,rfl⟩
        obtain⟨g,hg⟩:∃ x,x=c.get (slotR f).fld:=⟨_,rfl⟩
        obtain⟨c2,hc2⟩:∃ x,x=o.set (slotR f).fld g:=⟨_,rfl⟩
        have hT:=HATN.out;rw[← hg,← hlo,← hhi,← hc2] at hT;have HT:=hid hT.symm;have HLM:Hid (Calls Tryz.prog 48 #[.string z] wr fun e w'=>e=.returned (.tuple #[.int .i64 lo,.int .i64 hi])∧wr=w'):=hid (by have h:=limits_any hnw wr;unfold LimAt at h;rw[HZF.out,hlo,hhi];exact h);have HGE:Hid (∀ W,Calls Tryz.prog 41 #[.agg #[.int .i64 c.kind,.int .i64 c.x,.int .i64 c.y,.int .i64 c.n,.int .i64 c.m,.string (nmV c),.slice A c.cells.length cap,.int .i64 c.p,.int .i64 c.dx,.int .i64 c.dy],.string z] W fun e w'=>e=.returned (.int .i64 g)∧Below W.heap.size W w'):=hid (fun W=>by
         have h:=get_any hnw c (nmV c) A c.cells.length cap W;unfold GetAt cmdV at h;rw[HZF.out,hg];exact h)
        have hc2n:nmV o=nmV c2:=by unfold nmV;rw[hc2,set_name0]
        have HSE:Hid (∀ W,Calls Tryz.prog 49 #[.agg #[.int .i64 o.kind,.int .i64 o.x,.int .i64 o.y,.int .i64 o.n,.int .i64 o.m,.string (nmV o),.slice none 0 0,.int .i64 o.p,.int .i64 o.dx,.int .i64 o.dy],.string z,.int .i64 g] W fun e w'=>e=.returned (.agg #[.int .i64 c2.kind,.int .i64 c2.x,.int .i64 c2.y,.int .i64 c2.n,.int .i64 c2.m,.string (nmV c2),.slice none 0 0,.int .i64 c2.p,.int .i64 c2.dx,.int .i64 c2.dy])∧Below W.heap.size W w'):=hid (fun W=>by
         have h:=set_any hnw o (nmV o) none 0 0 g W;unfold SetAt cmdV at h;rw[← hc2] at h;rw[HZF.out,← hc2n];exact h)
        have HOC2:Hid (c2.cells=[]):=hid (by rw[hc2,set_cells0];exact HOC.out);clear hlo hhi hg hc2 hT hc2n hnw HATN HWF HNM HZF;cases b with
        | true=>
         go_wp2_with (go_at_call 39;refine (HNU.out _).mono ?_;rintro e wx ⟨rfl,hw⟩;rw[← hw];clear hw;refine Hid.out ?_);refine hid ?_;go_wp2_with (go_at_call 48;refine HLM.out.mono ?_;rintro e w7 ⟨rfl,hw⟩;rw[← hw];clear hw;refine Hid.out ?_);refine hid ?_;clear HLM;go_upto_region 16 with fail
         have x0:=cell_regrown (HKP.out.cell_ 0 _ rfl);have x1:=cell_regrown (HKP.out.cell_ 1 _ rfl);have x2:=cell_regrown (HKP.out.cell_ 2 _ rfl);have x3:=cell_regrown (HKP.out.cell_ 3 _ rfl);have x4:=cell_regrown (HKP.out.cell_ 4 _ rfl);have x5:=cell_regrown (HKP.out.cell_ 5 _ rfl);have x6:=cell_regrown (HKP.out.cell_ 6 _ rfl);have x7:=cell_regrown (HKP.out.cell_ 7 _ rfl);have x8:=cell_regrown (HKP.out.cell_ 8 _ rfl);have x9:=cell_regrown (HKP.out.cell_ 9 _ rfl);have y1:=cell_regrown HCF.out;have CG:=hid (fun (d:Nat) (os:Array Obj)=>Calls.regrown_of (d:=d) (os:=os) (HGE.out (Sort.grow (redrawn wr d) os)));by_cases hr1:g < lo
         ·have d1:decide (g < lo)=true:=decide_eq_true hr1;have HN:Hid (rb=false):=hid (by rw[HR1.out,← HT.out,if_pos (.inl hr1)];rfl);clear hr1;go_wp2_with fail;refine wp_region_quiet_below (by kernel_rfl) (by kernel_rfl) ?_;repeat (go_big_quiet_step (first | with_reducible exact CG.out _ _))
          refine wpQuiet_nil ?_;intro _ hw';obtain⟨⟨dq,osq⟩,hw''⟩:=hw';subst hw'';go_wp2;go_ret;exact⟨ret_b56 HN.out.symm,HBW.out.trans ((below_regrown _ dq osq).mono HBW.out.size)⟩
         have d1:decide (g < lo)=false:=decide_eq_false hr1;by_cases hr2:hi < g
         ·have d2:decide (hi < g)=true:=decide_eq_true hr2;have HN:Hid (rb=false):=hid (by rw[HR1.out,← HT.out,if_pos (.inr hr2)];rfl);clear hr1;go_wp2_with fail;refine wp_region_quiet_below (by kernel_rfl) (by kernel_rfl) ?_;repeat (go_big_quiet_step (first | with_reducible exact CG.out _ _))
          refine wpQuiet_nil ?_;intro _ hw';obtain⟨⟨dq,osq⟩,hw''⟩:=hw';subst hw'';go_wp2;go_ret;exact⟨ret_b56 HN.out.symm,HBW.out.trans ((below_regrown _ dq osq).mono HBW.out.size)⟩
         have d2:decide (hi < g)=false:=decide_eq_false hr2;have HN:Hid (rrTo (fs.drop (k+1)) c c2 true=rr):=hid (by rw[← HT.out,if_neg (by rintro (h | h);exact hr1 h;exact hr2 h)]);go_wp2_with fail;refine wp_region_quiet_below (by kernel_rfl) (by kernel_rfl) ?_;repeat (go_big_quiet_step (first | with_reducible exact CG.out _ _))
         refine wpQuiet_nil ?_;intro _ hw';obtain⟨⟨dq,osq⟩,hw''⟩:=hw';subst hw'';clear hr1 hr2;have hb16:=below_regrown wr dq osq;obtain⟨wr2,hwr2⟩:∃ W,W=Sort.grow (redrawn wr dq) osq:=⟨_,rfl⟩
         rw[← hwr2] at hb16 ⊢;have HKP2:=hid (HKP.out.below hb16 HKP.out.lt);have HKC2:=hid (HKC.out.below hb16 HKC.out.lt);have HBq2:=hid (HBq.out.below hb16);have HCF2:=hid ((hb16.cell (World.block_lt_of_cell? _ _ HCF.out)).trans HCF.out);have HN2:Hid (c2.cells=[]∧rrTo (fs.drop (k+1)) c c2 true=rr):=hid ⟨HOC2.out,HN.out⟩;clear hb16 hwr2 CG y1 x0 x1 x2 x3 x4 x5 x6 x7 x8 x9 HN HKP HKC HBq HCF;go_upto_region 18 with fail
         clear d1 d2;refine wp_region_J (by kernel_rfl) (fun listed act w'=>∃ b0 b1 b2 b3 b4 b5 b6 b7 b8 b9 b10 b11 b12 v102 v103 v104 v105 v106 v107 v108 v109 v110 v111 v112 v113,listed=#[b0,b1,b2,b3,b4,b5,b6,b7,b8,b9,b10,b11,b12]∧act=Act.mk #[.agg #[.int .i64 c.kind,.int .i64 c.x,.int .i64 c.y,.int .i64 c.n,.int .i64 c.m,Value.string (nmV c),.slice A c.cells.length cap,.int .i64 c.p,.int .i64 c.dx,.int .i64 c.dy],.pointer (some ⟨w.heap.size,0,none⟩),u2,.slice (some ⟨fbb,fbo,none⟩) fb.length fc,.pointer (some ⟨p5,0,none⟩),.bool true,.int .i64 ↑k,.int .i64 lo,.int .i64 hi,.pointer (some ⟨w.heap.size,0,none⟩),.int .i64 c.kind,.slice (some ⟨fbb,fbo,none⟩) fb.length fc,.slice (some ⟨fbb,fbo,none⟩) fb.length fc,.int .i64 ↑fb.length,.bool false,.pointer (some ⟨w.heap.size,0,none⟩),.int .i64 c.kind,.agg #[.int .i64 c.kind,.int .i64 0,.int .i64 0,.int .i64 0,.int .i64 0,Value.string { data:=#[] },.slice none 0 0,.int .i64 0,.int .i64 0,.int .i64 0],.int .i64 ↑k,.slice (some ⟨fbb,fbo,none⟩) fb.length fc,.int .i64 ↑fb.length,.bool true,u22,u23,.slice (some ⟨fbb,fbo,none⟩) fb.length fc,.int .i64 ↑k,.pointer (some ⟨fbb,fbo+k,none⟩),Value.string z,.bool false,.bool false,.slice (some ⟨fbb,fbo,none⟩) fb.length fc,.int .i64 ↑k,.pointer (some ⟨fbb,fbo+k,none⟩),Value.string z,.bool false,.bool false,u36,u37,u38,u39,u40,u41,u42,u43,u44,u45,u46,u47,u48,u49,u50,u51,u52,u53,u54,u55,u56,u57,u58,u59,u60,u61,u62,.bool true,.bool true,undef,undef,undef,undef,undef,.bool true,.slice (some ⟨fbb,fbo,none⟩) fb.length fc,.int .i64 ↑k,.pointer (some ⟨fbb,fbo+k,none⟩),Value.string z,.bool true,Value.tuple #[.int .i64 lo,.int .i64 hi],.slice (some ⟨fbb,fbo,none⟩) fb.length fc,.int .i64 ↑k,.pointer (some ⟨fbb,fbo+k,none⟩),Value.string z,Value.tuple #[.int .i64 lo,.int .i64 hi],.int .i64 lo,.int .i64 hi,.agg #[.int .i64 c.kind,.int .i64 c.x,.int .i64 c.y,.int .i64 c.n,.int .i64 c.m,Value.string (nmV c),.slice A c.cells.length cap,.int .i64 c.p,.int .i64 c.dx,.int .i64 c.dy],.slice (some ⟨fbb,fbo,none⟩) fb.length fc,.int .i64 ↑k,.pointer (some ⟨fbb,fbo+k,none⟩),Value.string z,.int .i64 g,.int .i64 lo,.bool false,.bool false,.agg #[.int .i64 c.kind,.int .i64 c.x,.int .i64 c.y,.int .i64 c.n,.int .i64 c.m,Value.string (nmV c),.slice A c.cells.length cap,.int .i64 c.p,.int .i64 c.dx,.int .i64 c.dy],.slice (some ⟨fbb,fbo,none⟩) fb.length fc,.int .i64 ↑k,.pointer (some ⟨fbb,fbo+k,none⟩),Value.string z,.int .i64 g,.int .i64 hi,.bool false,.bool false,v102,v103,v104,v105,v106,v107,v108,v109,v110,v111,v112,v113,undef,undef,undef,undef,undef,undef,undef,undef,undef,undef,undef,undef,undef,undef,undef,undef,undef,undef,undef,undef,undef,undef,undef,undef,undef,undef,undef,undef,undef,undef,undef,undef,undef,undef,undef,undef,undef,undef,undef,undef,undef,undef,undef,undef,undef,undef,undef,undef,undef,undef,undef,undef,undef,undef,undef,undef,undef,undef,undef,undef,undef,undef,undef,undef,undef,undef] []∧RG18 wr2 p5 fbb fbo fb.length fc k z o c c2 (nmV o) (nmV c) (nmV c2) A c.cells.length cap g b0 b1 b2 b3 b4 b5 b6 b7 b8 b9 b10 b11 b12 v102 v103 v104 v105 v106 v107 v108 v109 v110 v111 v112 v113 w') ?_ ?_ ?_
         ·exact (e_8 (e_8 (e_8 (e_1 ⟨rfl,rfl,(by constructor;(case ob=>exact ((Ob.refl p5 wr2).drew));(case blk=>exact fun _=>HKC2.out.drew);(case blk2=>exact (fun h=>(by cases h)));all_goals simp)⟩))))
         ·rintro i listed act w' hi ⟨b0,b1,b2,b3,b4,b5,b6,b7,b8,b9,b10,b11,b12,v102,v103,v104,v105,v106,v107,v108,v109,v110,v111,v112,v113,rfl,rfl,H⟩;have hi16:i < 13:=by
           obtain⟨-,o,ho,-⟩:=mem_ready.1 hi;exact (Array.getElem?_eq_some_iff.1 ho).1
          obtain rfl | rfl | rfl | rfl | rfl | rfl | rfl | rfl | rfl | rfl | rfl | rfl | rfl:i=0∨i=1∨i=2∨i=3∨i=4∨i=5∨i=6∨i=7∨i=8∨i=9∨i=10∨i=11∨i=12:=by omega
          all_goals simp[mem_ready,Region.binds] at hi
          ·have hb12:b12=false:=by
            cases hb:b12 with
            | false=>rfl
            | true=>have:=H.s12 hb;simp[this] at hi
           have kc:=H.blk hb12;have z0:=kc.cell_ 0 _ rfl;have z1:=kc.cell_ 1 _ rfl;have z2:=kc.cell_ 2 _ rfl;have z3:=kc.cell_ 3 _ rfl;have z4:=kc.cell_ 4 _ rfl;have z5:=kc.cell_ 5 _ rfl;have z6:=kc.cell_ 6 _ rfl;have z7:=kc.cell_ 7 _ rfl;have z8:=kc.cell_ 8 _ rfl;have z9:=kc.cell_ 9 _ rfl;refine wpOp_hidden rfl fun K hK=>?_;go_wp2;refine OnlyN.mk (hK.out _ _ (e_8 (e_8 (e_8 (e_1 ⟨rfl,rfl,{ H with h0:=fun _=>rfl,s11:=fun _=>rfl,s12:=fun _=>rfl }⟩)))))
          ·refine wpOp_hidden rfl fun K hK=>?_;go_wp2;refine OnlyN.mk (hK.out _ _ (e_8 (e_8 (e_8 (e_1 ⟨rfl,rfl,{ H with h1:=fun _=>rfl }⟩)))))
          ·refine wpOp_hidden rfl fun K hK=>?_;go_wp2;refine OnlyN.mk (hK.out _ _ (e_8 (e_8 (e_8 (e_1 ⟨rfl,rfl,{ H with h2:=fun _=>rfl }⟩)))))
          ·obtain rfl:=H.h1 (by simp[hi]);obtain rfl:=H.h2 (by simp[hi]);refine wpOp_hidden rfl fun K hK=>?_;go_wp2;refine OnlyN.mk (hK.out _ _ (e_8 (e_8 (e_8 (e_1 ⟨rfl,rfl,{ H with h3:=fun _=>rfl }⟩)))))
          ·obtain rfl:=H.h3 (by simp[hi]);have cq:=World.grownBy.cell H.ob HCF2.out (fun e=>by injection e with e;exact HFX.out e);refine wpOp_hidden rfl fun K hK=>?_;go_wp2;refine OnlyN.mk (hK.out _ _ (e_8 (e_8 (e_8 (e_1 ⟨rfl,rfl,{ H with h4:=fun _=>rfl }⟩)))))
          ·have kq:=H.ob.blk HKP2.out (by have h1:=HP5.out;have h2:=HP2.out.lt;omega);have x0:=kq.cell_ 0 _ rfl;have x1:=kq.cell_ 1 _ rfl;have x2:=kq.cell_ 2 _ rfl;have x3:=kq.cell_ 3 _ rfl;have x4:=kq.cell_ 4 _ rfl;have x5:=kq.cell_ 5 _ rfl;have x6:=kq.cell_ 6 _ rfl;have x7:=kq.cell_ 7 _ rfl;have x8:=kq.cell_ 8 _ rfl;have x9:=kq.cell_ 9 _ rfl;refine wpOp_hidden rfl fun K hK=>?_;go_wp2;refine OnlyN.mk (hK.out _ _ (e_8 (e_8 (e_8 (e_1 ⟨rfl,rfl,{ H with h5:=fun _=>rfl }⟩)))))
          ·refine wpOp_hidden rfl fun K hK=>?_;go_wp2;refine OnlyN.mk (hK.out _ _ (e_8 (e_8 (e_8 (e_1 ⟨rfl,rfl,{ H with h6:=fun _=>rfl }⟩)))))
          ·refine wpOp_hidden rfl fun K hK=>?_;go_wp2;refine OnlyN.mk (hK.out _ _ (e_8 (e_8 (e_8 (e_1 ⟨rfl,rfl,{ H with h7:=fun _=>rfl }⟩)))))
          ·obtain rfl:=H.h6 (by simp[hi]);obtain rfl:=H.h7 (by simp[hi]);refine wpOp_hidden rfl fun K hK=>?_;go_wp2;refine OnlyN.mk (hK.out _ _ (e_8 (e_8 (e_8 (e_1 ⟨rfl,rfl,{ H with h8:=fun _=>rfl }⟩)))))
          ·obtain rfl:=H.h8 (by simp[hi]);have cq:=World.grownBy.cell H.ob HCF2.out (fun e=>by injection e with e;exact HFX.out e);refine wpOp_hidden rfl fun K hK=>?_;go_wp2;refine OnlyN.mk (hK.out _ _ (e_8 (e_8 (e_8 (e_1 ⟨rfl,rfl,{ H with h9:=fun _=>rfl }⟩)))))
          ·obtain rfl:=H.h5 (by simp[hi]);obtain rfl:=H.h9 (by simp[hi]);have HCALL:=hid (HGE.out w');refine wpOp_hidden rfl fun K hK=>?_;go_wp2_with (go_at_call 41;refine HCALL.out.mono ?_;intro e w9 hx;obtain⟨rfl,hb9⟩:=hx;refine Hid.out ?_);refine hid ?_;have HB9:=hid hb9;clear hb9 HCALL;go_wp2;refine OnlyN.mk (hK.out _ _ (e_8 (e_8 (e_8 (e_1 ⟨rfl,rfl,{ H.world HB9.out with h10:=fun _=>rfl }⟩)))))
          ·obtain rfl:=H.h0 (by simp[hi]);obtain rfl:=H.h4 (by simp[hi]);obtain rfl:=H.h10 (by simp[hi]);have HCALL:=hid (HSE.out w');refine wpOp_hidden rfl fun K hK=>?_;go_wp2_with (go_at_call 49;refine HCALL.out.mono ?_;intro e w9 hx;obtain⟨rfl,hb9⟩:=hx;refine Hid.out ?_);refine hid ?_;have HB9:=hid hb9;clear hb9 HCALL;go_wp2;refine OnlyN.mk (hK.out _ _ (e_8 (e_8 (e_8 (e_1 ⟨rfl,rfl,{ H.world HB9.out with h11:=fun _=>rfl,s11:=fun _=>(by simp[hi]) }⟩)))))
          ·obtain rfl:=H.h11 (by simp[hi]);have hb12:b12=false:=by simp[hi]
           have kc:=H.blk hb12;have z0:=kc.cell_ 0 _ rfl;have g0:=kc.frozen 0;have z1:=kc.cell_ 1 _ rfl;have g1:=kc.frozen 1;have z2:=kc.cell_ 2 _ rfl;have g2:=kc.frozen 2;have z3:=kc.cell_ 3 _ rfl;have g3:=kc.frozen 3;have z4:=kc.cell_ 4 _ rfl;have g4:=kc.frozen 4;have z5:=kc.cell_ 5 _ rfl;have g5:=kc.frozen 5;have z6:=kc.cell_ 6 _ rfl;have g6:=kc.frozen 6;have z7:=kc.cell_ 7 _ rfl;have g7:=kc.frozen 7;have z8:=kc.cell_ 8 _ rfl;have g8:=kc.frozen 8;have z9:=kc.cell_ 9 _ rfl;have g9:=kc.frozen 9;have HK12:=hid kc;have HO12:=hid H.ob;clear kc;refine wpOp_hidden rfl fun K hK=>?_;go_wp2;refine OnlyN.mk (hK.out _ _ (e_8 (e_8 (e_8 (e_1 ⟨rfl,rfl,{ H with ob:=HO12.out.set10 (.int .i64 c2.kind) (.int .i64 c2.x) (.int .i64 c2.y) (.int .i64 c2.n) (.int .i64 c2.m) (.string (nmV c2)) (.slice none 0 0) (.int .i64 c2.p) (.int .i64 c2.dx) (.int .i64 c2.dy),s12:=fun _=>H.s11 (by simp[hi]),blk:=fun h=>(by cases h),blk2:=fun _=>blk_set10 HK12.out (.int .i64 c2.kind) (.int .i64 c2.x) (.int .i64 c2.y) (.int .i64 c2.n) (.int .i64 c2.m) (.string (nmV c2)) (.slice none 0 0) (.int .i64 c2.p) (.int .i64 c2.dx) (.int .i64 c2.dy) }⟩)))))
         ·rintro listed act w' hr ⟨b0,b1,b2,b3,b4,b5,b6,b7,b8,b9,b10,b11,b12,v102,v103,v104,v105,v106,v107,v108,v109,v110,v111,v112,v113,rfl,rfl,H⟩;have hn:=List.eq_nil_iff_forall_not_mem.1 hr;have r0:=hn 0;simp[mem_ready,Region.binds] at r0;subst r0;have r1:=hn 1;simp[mem_ready,Region.binds] at r1;subst r1;have r2:=hn 2;simp[mem_ready,Region.binds] at r2;subst r2;have r3:=hn 3;simp[mem_ready,Region.binds] at r3;subst r3;have r4:=hn 4;simp[mem_ready,Region.binds] at r4;subst r4;have r5:=hn 5;simp[mem_ready,Region.binds] at r5;subst r5;have r6:=hn 6;simp[mem_ready,Region.binds] at r6;subst r6;have r7:=hn 7;simp[mem_ready,Region.binds] at r7;subst r7;have r8:=hn 8;simp[mem_ready,Region.binds] at r8;subst r8;have r9:=hn 9;simp[mem_ready,Region.binds] at r9;subst r9;have r10:=hn 10;simp[mem_ready,Region.binds] at r10;subst r10;have r11:=hn 11;simp[mem_ready,Region.binds] at r11;subst r11;have r12:=hn 12;simp[mem_ready,Region.binds] at r12;subst r12;have HOB:=hid H.ob;have HKN:=hid (H.blk2 (by simp));have HBN:=hid (HBq2.out.trans HOB.out);clear H;go_wp2;go_roundw
          case rel=>exact⟨k+1,true,c2,HLT.out,(by first | rfl | (rw[hwk];rfl)),rfl,HBN,HKN,HN2⟩
          case measure=>(try rw[hwk]);exact meas_step5b HLT.out
        | false=>
         go_wp2_with (go_at_call 39;refine (HNU.out _).mono ?_;rintro e wx ⟨rfl,hw⟩;rw[← hw];clear hw;refine Hid.out ?_);refine hid ?_;go_wp2_with (go_at_call 48;refine HLM.out.mono ?_;rintro e w7 ⟨rfl,hw⟩;rw[← hw];clear hw;refine Hid.out ?_);refine hid ?_;clear HLM;go_upto_region 16 with fail
         have x0:=cell_regrown (HKP.out.cell_ 0 _ rfl);have x1:=cell_regrown (HKP.out.cell_ 1 _ rfl);have x2:=cell_regrown (HKP.out.cell_ 2 _ rfl);have x3:=cell_regrown (HKP.out.cell_ 3 _ rfl);have x4:=cell_regrown (HKP.out.cell_ 4 _ rfl);have x5:=cell_regrown (HKP.out.cell_ 5 _ rfl);have x6:=cell_regrown (HKP.out.cell_ 6 _ rfl);have x7:=cell_regrown (HKP.out.cell_ 7 _ rfl);have x8:=cell_regrown (HKP.out.cell_ 8 _ rfl);have x9:=cell_regrown (HKP.out.cell_ 9 _ rfl);have y1:=cell_regrown HCF.out;have CG:=hid (fun (d:Nat) (os:Array Obj)=>Calls.regrown_of (d:=d) (os:=os) (HGE.out (Sort.grow (redrawn wr d) os)));by_cases hr1:g < lo
         ·have d1:decide (g < lo)=true:=decide_eq_true hr1;have HN:Hid (rb=false):=hid (by rw[HR1.out,← HT.out,if_pos (.inl hr1)];rfl);clear hr1;go_wp2_with fail;refine wp_region_quiet_below (by kernel_rfl) (by kernel_rfl) ?_;repeat (go_big_quiet_step (first | with_reducible exact CG.out _ _))
          refine wpQuiet_nil ?_;intro _ hw';obtain⟨⟨dq,osq⟩,hw''⟩:=hw';subst hw'';go_wp2;go_ret;exact⟨ret_b56 HN.out.symm,HBW.out.trans ((below_regrown _ dq osq).mono HBW.out.size)⟩
         have d1:decide (g < lo)=false:=decide_eq_false hr1;by_cases hr2:hi < g
         ·have d2:decide (hi < g)=true:=decide_eq_true hr2;have HN:Hid (rb=false):=hid (by rw[HR1.out,← HT.out,if_pos (.inr hr2)];rfl);clear hr1;go_wp2_with fail;refine wp_region_quiet_below (by kernel_rfl) (by kernel_rfl) ?_;repeat (go_big_quiet_step (first | with_reducible exact CG.out _ _))
          refine wpQuiet_nil ?_;intro _ hw';obtain⟨⟨dq,osq⟩,hw''⟩:=hw';subst hw'';go_wp2;go_ret;exact⟨ret_b56 HN.out.symm,HBW.out.trans ((below_regrown _ dq osq).mono HBW.out.size)⟩
         have d2:decide (hi < g)=false:=decide_eq_false hr2;have HN:Hid (rrTo (fs.drop (k+1)) c c2 false=rr):=hid (by rw[← HT.out,if_neg (by rintro (h | h);exact hr1 h;exact hr2 h)]);go_wp2_with fail;refine wp_region_quiet_below (by kernel_rfl) (by kernel_rfl) ?_;repeat (go_big_quiet_step (first | with_reducible exact CG.out _ _))
         refine wpQuiet_nil ?_;intro _ hw';obtain⟨⟨dq,osq⟩,hw''⟩:=hw';subst hw'';clear hr1 hr2;have hb16:=below_regrown wr dq osq;obtain⟨wr2,hwr2⟩:∃ W,W=Sort.grow (redrawn wr dq) osq:=⟨_,rfl⟩
         rw[← hwr2] at hb16 ⊢;have HKP2:=hid (HKP.out.below hb16 HKP.out.lt);have HKC2:=hid (HKC.out.below hb16 HKC.out.lt);have HBq2:=hid (HBq.out.below hb16);have HCF2:=hid ((hb16.cell (World.block_lt_of_cell? _ _ HCF.out)).trans HCF.out);have HN2:Hid (c2.cells=[]∧rrTo (fs.drop (k+1)) c c2 false=rr):=hid ⟨HOC2.out,HN.out⟩;clear hb16 hwr2 CG y1 x0 x1 x2 x3 x4 x5 x6 x7 x8 x9 HN HKP HKC HBq HCF;go_upto_region 18 with fail
         clear d1 d2;refine wp_region_J (by kernel_rfl) (fun listed act w'=>∃ b0 b1 b2 b3 b4 b5 b6 b7 b8 b9 b10 b11 b12 v102 v103 v104 v105 v106 v107 v108 v109 v110 v111 v112 v113,listed=#[b0,b1,b2,b3,b4,b5,b6,b7,b8,b9,b10,b11,b12]∧act=Act.mk #[.agg #[.int .i64 c.kind,.int .i64 c.x,.int .i64 c.y,.int .i64 c.n,.int .i64 c.m,Value.string (nmV c),.slice A c.cells.length cap,.int .i64 c.p,.int .i64 c.dx,.int .i64 c.dy],.pointer (some ⟨w.heap.size,0,none⟩),u2,.slice (some ⟨fbb,fbo,none⟩) fb.length fc,.pointer (some ⟨p5,0,none⟩),.bool false,.int .i64 ↑k,.int .i64 lo,.int .i64 hi,.pointer (some ⟨w.heap.size,0,none⟩),.int .i64 c.kind,.slice (some ⟨fbb,fbo,none⟩) fb.length fc,.slice (some ⟨fbb,fbo,none⟩) fb.length fc,.int .i64 ↑fb.length,.bool false,.pointer (some ⟨w.heap.size,0,none⟩),.int .i64 c.kind,.agg #[.int .i64 c.kind,.int .i64 0,.int .i64 0,.int .i64 0,.int .i64 0,Value.string { data:=#[] },.slice none 0 0,.int .i64 0,.int .i64 0,.int .i64 0],.int .i64 ↑k,.slice (some ⟨fbb,fbo,none⟩) fb.length fc,.int .i64 ↑fb.length,.bool true,u22,u23,.slice (some ⟨fbb,fbo,none⟩) fb.length fc,.int .i64 ↑k,.pointer (some ⟨fbb,fbo+k,none⟩),Value.string z,.bool false,.bool false,.slice (some ⟨fbb,fbo,none⟩) fb.length fc,.int .i64 ↑k,.pointer (some ⟨fbb,fbo+k,none⟩),Value.string z,.bool false,.bool false,u36,u37,u38,u39,u40,u41,u42,u43,u44,u45,u46,u47,u48,u49,u50,u51,u52,u53,u54,u55,u56,u57,u58,u59,u60,u61,u62,.bool false,.bool false,.slice (some ⟨fbb,fbo,none⟩) fb.length fc,.int .i64 ↑k,.pointer (some ⟨fbb,fbo+k,none⟩),Value.string z,.bool false,.bool false,.slice (some ⟨fbb,fbo,none⟩) fb.length fc,.int .i64 ↑k,.pointer (some ⟨fbb,fbo+k,none⟩),Value.string z,.bool true,Value.tuple #[.int .i64 lo,.int .i64 hi],.slice (some ⟨fbb,fbo,none⟩) fb.length fc,.int .i64 ↑k,.pointer (some ⟨fbb,fbo+k,none⟩),Value.string z,Value.tuple #[.int .i64 lo,.int .i64 hi],.int .i64 lo,.int .i64 hi,.agg #[.int .i64 c.kind,.int .i64 c.x,.int .i64 c.y,.int .i64 c.n,.int .i64 c.m,Value.string (nmV c),.slice A c.cells.length cap,.int .i64 c.p,.int .i64 c.dx,.int .i64 c.dy],.slice (some ⟨fbb,fbo,none⟩) fb.length fc,.int .i64 ↑k,.pointer (some ⟨fbb,fbo+k,none⟩),Value.string z,.int .i64 g,.int .i64 lo,.bool false,.bool false,.agg #[.int .i64 c.kind,.int .i64 c.x,.int .i64 c.y,.int .i64 c.n,.int .i64 c.m,Value.string (nmV c),.slice A c.cells.length cap,.int .i64 c.p,.int .i64 c.dx,.int .i64 c.dy],.slice (some ⟨fbb,fbo,none⟩) fb.length fc,.int .i64 ↑k,.pointer (some ⟨fbb,fbo+k,none⟩),Value.string z,.int .i64 g,.int .i64 hi,.bool false,.bool false,v102,v103,v104,v105,v106,v107,v108,v109,v110,v111,v112,v113,undef,undef,undef,undef,undef,undef,undef,undef,undef,undef,undef,undef,undef,undef,undef,undef,undef,undef,undef,undef,undef,undef,undef,undef,undef,undef,undef,undef,undef,undef,undef,undef,undef,undef,undef,undef,undef,undef,undef,undef,undef,undef,undef,undef,undef,undef,undef,undef,undef,undef,undef,undef,undef,undef,undef,undef,undef,undef,undef,undef,undef,undef,undef,undef,undef,undef] []∧RG18 wr2 p5 fbb fbo fb.length fc k z o c c2 (nmV o) (nmV c) (nmV c2) A c.cells.length cap g b0 b1 b2 b3 b4 b5 b6 b7 b8 b9 b10 b11 b12 v102 v103 v104 v105 v106 v107 v108 v109 v110 v111 v112 v113 w') ?_ ?_ ?_
         ·exact (e_8 (e_8 (e_8 (e_1 ⟨rfl,rfl,(by constructor;(case ob=>exact ((Ob.refl p5 wr2).drew));(case blk=>exact fun _=>HKC2.out.drew);(case blk2=>exact (fun h=>(by cases h)));all_goals simp)⟩))))
         ·rintro i listed act w' hi ⟨b0,b1,b2,b3,b4,b5,b6,b7,b8,b9,b10,b11,b12,v102,v103,v104,v105,v106,v107,v108,v109,v110,v111,v112,v113,rfl,rfl,H⟩;have hi16:i < 13:=by
           obtain⟨-,o,ho,-⟩:=mem_ready.1 hi;exact (Array.getElem?_eq_some_iff.1 ho).1
          obtain rfl | rfl | rfl | rfl | rfl | rfl | rfl | rfl | rfl | rfl | rfl | rfl | rfl:i=0∨i=1∨i=2∨i=3∨i=4∨i=5∨i=6∨i=7∨i=8∨i=9∨i=10∨i=11∨i=12:=by omega
          all_goals simp[mem_ready,Region.binds] at hi
          ·have hb12:b12=false:=by
            cases hb:b12 with
            | false=>rfl
            | true=>have:=H.s12 hb;simp[this] at hi
           have kc:=H.blk hb12;have z0:=kc.cell_ 0 _ rfl;have z1:=kc.cell_ 1 _ rfl;have z2:=kc.cell_ 2 _ rfl;have z3:=kc.cell_ 3 _ rfl;have z4:=kc.cell_ 4 _ rfl;have z5:=kc.cell_ 5 _ rfl;have z6:=kc.cell_ 6 _ rfl;have z7:=kc.cell_ 7 _ rfl;have z8:=kc.cell_ 8 _ rfl;have z9:=kc.cell_ 9 _ rfl;refine wpOp_hidden rfl fun K hK=>?_;go_wp2;refine OnlyN.mk (hK.out _ _ (e_8 (e_8 (e_8 (e_1 ⟨rfl,rfl,{ H with h0:=fun _=>rfl,s11:=fun _=>rfl,s12:=fun _=>rfl }⟩)))))
          ·refine wpOp_hidden rfl fun K hK=>?_;go_wp2;refine OnlyN.mk (hK.out _ _ (e_8 (e_8 (e_8 (e_1 ⟨rfl,rfl,{ H with h1:=fun _=>rfl }⟩)))))
          ·refine wpOp_hidden rfl fun K hK=>?_;go_wp2;refine OnlyN.mk (hK.out _ _ (e_8 (e_8 (e_8 (e_1 ⟨rfl,rfl,{ H with h2:=fun _=>rfl }⟩)))))
          ·obtain rfl:=H.h1 (by simp[hi]);obtain rfl:=H.h2 (by simp[hi]);refine wpOp_hidden rfl fun K hK=>?_;go_wp2;refine OnlyN.mk (hK.out _ _ (e_8 (e_8 (e_8 (e_1 ⟨rfl,rfl,{ H with h3:=fun _=>rfl }⟩)))))
          ·obtain rfl:=H.h3 (by simp[hi]);have cq:=World.grownBy.cell H.ob HCF2.out (fun e=>by injection e with e;exact HFX.out e);refine wpOp_hidden rfl fun K hK=>?_;go_wp2;refine OnlyN.mk (hK.out _ _ (e_8 (e_8 (e_8 (e_1 ⟨rfl,rfl,{ H with h4:=fun _=>rfl }⟩)))))
          ·have kq:=H.ob.blk HKP2.out (by have h1:=HP5.out;have h2:=HP2.out.lt;omega);have x0:=kq.cell_ 0 _ rfl;have x1:=kq.cell_ 1 _ rfl;have x2:=kq.cell_ 2 _ rfl;have x3:=kq.cell_ 3 _ rfl;have x4:=kq.cell_ 4 _ rfl;have x5:=kq.cell_ 5 _ rfl;have x6:=kq.cell_ 6 _ rfl;have x7:=kq.cell_ 7 _ rfl;have x8:=kq.cell_ 8 _ rfl;have x9:=kq.cell_ 9 _ rfl;refine wpOp_hidden rfl fun K hK=>?_;go_wp2;refine OnlyN.mk (hK.out _ _ (e_8 (e_8 (e_8 (e_1 ⟨rfl,rfl,{ H with h5:=fun _=>rfl }⟩)))))
          ·refine wpOp_hidden rfl fun K hK=>?_;go_wp2;refine OnlyN.mk (hK.out _ _ (e_8 (e_8 (e_8 (e_1 ⟨rfl,rfl,{ H with h6:=fun _=>rfl }⟩)))))
          ·refine wpOp_hidden rfl fun K hK=>?_;go_wp2;refine OnlyN.mk (hK.out _ _ (e_8 (e_8 (e_8 (e_1 ⟨rfl,rfl,{ H with h7:=fun _=>rfl }⟩)))))
          ·obtain rfl:=H.h6 (by simp[hi]);obtain rfl:=H.h7 (by simp[hi]);refine wpOp_hidden rfl fun K hK=>?_;go_wp2;refine OnlyN.mk (hK.out _ _ (e_8 (e_8 (e_8 (e_1 ⟨rfl,rfl,{ H with h8:=fun _=>rfl }⟩)))))
          ·obtain rfl:=H.h8 (by simp[hi]);have cq:=World.grownBy.cell H.ob HCF2.out (fun e=>by injection e with e;exact HFX.out e);refine wpOp_hidden rfl fun K hK=>?_;go_wp2;refine OnlyN.mk (hK.out _ _ (e_8 (e_8 (e_8 (e_1 ⟨rfl,rfl,{ H with h9:=fun _=>rfl }⟩)))))
          ·obtain rfl:=H.h5 (by simp[hi]);obtain rfl:=H.h9 (by simp[hi]);have HCALL:=hid (HGE.out w');refine wpOp_hidden rfl fun K hK=>?_;go_wp2_with (go_at_call 41;refine HCALL.out.mono ?_;intro e w9 hx;obtain⟨rfl,hb9⟩:=hx;refine Hid.out ?_);refine hid ?_;have HB9:=hid hb9;clear hb9 HCALL;go_wp2;refine OnlyN.mk (hK.out _ _ (e_8 (e_8 (e_8 (e_1 ⟨rfl,rfl,{ H.world HB9.out with h10:=fun _=>rfl }⟩)))))
          ·obtain rfl:=H.h0 (by simp[hi]);obtain rfl:=H.h4 (by simp[hi]);obtain rfl:=H.h10 (by simp[hi]);have HCALL:=hid (HSE.out w');refine wpOp_hidden rfl fun K hK=>?_;go_wp2_with (go_at_call 49;refine HCALL.out.mono ?_;intro e w9 hx;obtain⟨rfl,hb9⟩:=hx;refine Hid.out ?_);refine hid ?_;have HB9:=hid hb9;clear hb9 HCALL;go_wp2;refine OnlyN.mk (hK.out _ _ (e_8 (e_8 (e_8 (e_1 ⟨rfl,rfl,{ H.world HB9.out with h11:=fun _=>rfl,s11:=fun _=>(by simp[hi]) }⟩)))))
          ·obtain rfl:=H.h11 (by simp[hi]);have hb12:b12=false:=by simp[hi]
           have kc:=H.blk hb12;have z0:=kc.cell_ 0 _ rfl;have g0:=kc.frozen 0;have z1:=kc.cell_ 1 _ rfl;have g1:=kc.frozen 1;have z2:=kc.cell_ 2 _ rfl;have g2:=kc.frozen 2;have z3:=kc.cell_ 3 _ rfl;have g3:=kc.frozen 3;have z4:=kc.cell_ 4 _ rfl;have g4:=kc.frozen 4;have z5:=kc.cell_ 5 _ rfl;have g5:=kc.frozen 5;have z6:=kc.cell_ 6 _ rfl;have g6:=kc.frozen 6;have z7:=kc.cell_ 7 _ rfl;have g7:=kc.frozen 7;have z8:=kc.cell_ 8 _ rfl;have g8:=kc.frozen 8;have z9:=kc.cell_ 9 _ rfl;have g9:=kc.frozen 9;have HK12:=hid kc;have HO12:=hid H.ob;clear kc;refine wpOp_hidden rfl fun K hK=>?_;go_wp2;refine OnlyN.mk (hK.out _ _ (e_8 (e_8 (e_8 (e_1 ⟨rfl,rfl,{ H with ob:=HO12.out.set10 (.int .i64 c2.kind) (.int .i64 c2.x) (.int .i64 c2.y) (.int .i64 c2.n) (.int .i64 c2.m) (.string (nmV c2)) (.slice none 0 0) (.int .i64 c2.p) (.int .i64 c2.dx) (.int .i64 c2.dy),s12:=fun _=>H.s11 (by simp[hi]),blk:=fun h=>(by cases h),blk2:=fun _=>blk_set10 HK12.out (.int .i64 c2.kind) (.int .i64 c2.x) (.int .i64 c2.y) (.int .i64 c2.n) (.int .i64 c2.m) (.string (nmV c2)) (.slice none 0 0) (.int .i64 c2.p) (.int .i64 c2.dx) (.int .i64 c2.dy) }⟩)))))
         ·rintro listed act w' hr ⟨b0,b1,b2,b3,b4,b5,b6,b7,b8,b9,b10,b11,b12,v102,v103,v104,v105,v106,v107,v108,v109,v110,v111,v112,v113,rfl,rfl,H⟩;have hn:=List.eq_nil_iff_forall_not_mem.1 hr;have r0:=hn 0;simp[mem_ready,Region.binds] at r0;subst r0;have r1:=hn 1;simp[mem_ready,Region.binds] at r1;subst r1;have r2:=hn 2;simp[mem_ready,Region.binds] at r2;subst r2;have r3:=hn 3;simp[mem_ready,Region.binds] at r3;subst r3;have r4:=hn 4;simp[mem_ready,Region.binds] at r4;subst r4;have r5:=hn 5;simp[mem_ready,Region.binds] at r5;subst r5;have r6:=hn 6;simp[mem_ready,Region.binds] at r6;subst r6;have r7:=hn 7;simp[mem_ready,Region.binds] at r7;subst r7;have r8:=hn 8;simp[mem_ready,Region.binds] at r8;subst r8;have r9:=hn 9;simp[mem_ready,Region.binds] at r9;subst r9;have r10:=hn 10;simp[mem_ready,Region.binds] at r10;subst r10;have r11:=hn 11;simp[mem_ready,Region.binds] at r11;subst r11;have r12:=hn 12;simp[mem_ready,Region.binds] at r12;subst r12;have HOB:=hid H.ob;have HKN:=hid (H.blk2 (by simp));have HBN:=hid (HBq2.out.trans HOB.out);clear H;go_wp2;go_roundw
          case rel=>exact⟨k+1,false,c2,HLT.out,(by first | rfl | (rw[hwk];rfl)),rfl,HBN,HKN,HN2⟩
          case measure=>(try rw[hwk]);exact meas_step5b HLT.out
   ·have hek:k=fb.length:=by omega
    have HRE:Hid (rb=rendB o c b):=hid (by rw[HR1.out,← HT.out.2,hek,HFL.out,List.drop_length,rrTo_end];rfl);have dk:decide ((k:Int) < fb.length)=false:=decide_eq_false (by omega);have hnlt:¬ k < fb.length:=hlt;clear hek hlt HT;have z1:wr.cell? ⟨p5,1,none⟩=some (.int .i64 o.x):=HKC.out.cell_ 1 _ rfl;have z2:wr.cell? ⟨p5,2,none⟩=some (.int .i64 o.y):=HKC.out.cell_ 2 _ rfl;have z3:wr.cell? ⟨p5,3,none⟩=some (.int .i64 o.n):=HKC.out.cell_ 3 _ rfl;have z4:wr.cell? ⟨p5,4,none⟩=some (.int .i64 o.m):=HKC.out.cell_ 4 _ rfl;have z5:wr.cell? ⟨p5,5,none⟩=some (.string (nmV o)):=HKC.out.cell_ 5 _ rfl;have z7:wr.cell? ⟨p5,7,none⟩=some (.int .i64 o.p):=HKC.out.cell_ 7 _ rfl;have z8:wr.cell? ⟨p5,8,none⟩=some (.int .i64 o.dx):=HKC.out.cell_ 8 _ rfl;have z9:wr.cell? ⟨p5,9,none⟩=some (.int .i64 o.dy):=HKC.out.cell_ 9 _ rfl;have x1:wr.cell? ⟨w.heap.size,1,none⟩=some (.int .i64 c.x):=HKP.out.cell_ 1 _ rfl;have x2:wr.cell? ⟨w.heap.size,2,none⟩=some (.int .i64 c.y):=HKP.out.cell_ 2 _ rfl;have x3:wr.cell? ⟨w.heap.size,3,none⟩=some (.int .i64 c.n):=HKP.out.cell_ 3 _ rfl;have x4:wr.cell? ⟨w.heap.size,4,none⟩=some (.int .i64 c.m):=HKP.out.cell_ 4 _ rfl;have x5:wr.cell? ⟨w.heap.size,5,none⟩=some (.string (nmV c)):=HKP.out.cell_ 5 _ rfl;have x6:wr.cell? ⟨w.heap.size,6,none⟩=some (.slice A c.cells.length cap):=HKP.out.cell_ 6 _ rfl;have x7:wr.cell? ⟨w.heap.size,7,none⟩=some (.int .i64 c.p):=HKP.out.cell_ 7 _ rfl;have x8:wr.cell? ⟨w.heap.size,8,none⟩=some (.int .i64 c.dx):=HKP.out.cell_ 8 _ rfl;have x9:wr.cell? ⟨w.heap.size,9,none⟩=some (.int .i64 c.dy):=HKP.out.cell_ 9 _ rfl;have HCW:=hid (HCL.out.ext HBW.out);have HQN:Hid ((nmV o).toList=(nmV c).toList ↔ o.name=c.name):=hid (by rw[ByteArray.toList_eq,ByteArray.toList_eq,nmV_data,nmV_data]);have HQL:Hid (0 < c.cells.length ↔ ¬ c.cells=[]):=hid List.length_pos_iff;cases b with
    | false=>
     have HBH:Hid (rb=(decide (c.cells=[]) && (decide (o.x=c.x) && decide (o.y=c.y) && decide (o.n=c.n) && decide (o.m=c.m) && decide (o.name=c.name) && (decide (o.p=c.p) && decide (o.dx=c.dx) && decide (o.dy=c.dy))))):=hid (by rw[HRE.out];unfold rendB;by_cases h:c.cells=[] <;> simp[h]);go_upto_region 19 with fail
     go_quiet (fail)
     clear hwk hk dk hnlt;go_wp2
     all_goals
      go_ret;refine⟨ret_b56 ?_,below_drewN HBW.out _⟩;rw[HBH.out]
      first
      | (rw[decide_eq_false (p:=c.cells=[]) (HQL.out.1 (by assumption))];rfl)
      | (rw[decide_eq_false (p:=o.x=c.x) (by assumption)];simp;done)
      | (rw[decide_eq_false (p:=o.y=c.y) (by assumption)];simp;done)
      | (rw[decide_eq_false (p:=o.n=c.n) (by assumption)];simp;done)
      | (rw[decide_eq_false (p:=o.m=c.m) (by assumption)];simp;done)
      | (rw[decide_eq_false (p:=o.p=c.p) (by assumption)];simp;done)
      | (rw[decide_eq_false (p:=o.dx=c.dx) (by assumption)];simp;done)
      | (rw[decide_eq_false (p:=o.dy=c.dy) (by assumption)];simp;done)
      | (rw[decide_eq_false (p:=o.name=c.name) (fun h=>absurd (HQN.out.2 h) (by assumption))];simp;done)
      | (rw[decide_eq_true (p:=c.cells=[]) (Decidable.not_not.1 fun h=>absurd (HQL.out.2 h) (by assumption)),decide_eq_true (p:=o.x=c.x) (by assumption),decide_eq_true (p:=o.y=c.y) (by assumption),decide_eq_true (p:=o.n=c.n) (by assumption),decide_eq_true (p:=o.m=c.m) (by assumption),decide_eq_true (p:=o.name=c.name) (HQN.out.1 (by assumption)),decide_eq_true (p:=o.p=c.p) (by assumption),decide_eq_true (p:=o.dx=c.dx) (by assumption),decide_eq_true (p:=o.dy=c.dy) (by assumption)];rfl)
    | true=>
     have HBH:Hid (rb=(homedB c.cells && (decide (o.x=c.x) && decide (o.y=c.y) && decide (o.n=c.n) && decide (o.m=c.m) && decide (o.name=c.name) && (decide (o.p=c.p) && decide (o.dx=c.dx) && decide (o.dy=c.dy))))):=hid (by rw[HRE.out];unfold rendB;cases homedB c.cells <;> simp);have HE:=hid (homed_eq c.cells);have HRI:Hid (∀ W,Below wr.heap.size wr W→Calls Tryz.prog 50 #[.slice A c.cells.length cap] W fun e w'=>e=.returned (.bool (rightC c.cells))∧Below W.heap.size W w'):=hid (fun W hb=>rright_any A cap c.cells W (HCW.out.ext hb));obtain⟨rc,hrc⟩:∃ b,b=rightC c.cells:=⟨_,rfl⟩
     rw[← hrc] at HRI HE;clear hrc;have HX:Hid (∀ W,Below wr.heap.size wr W→W.cell? ⟨w.heap.size,6,none⟩=some (.slice A c.cells.length cap)):=hid (fun W hb=>(HKP.out.below hb HKP.out.lt).cell_ 6 _ rfl);go_upto_region 19 with fail
     clear z1 z2 z3 z4 z5 z7 z8 z9 x1 x2 x3 x4 x5 x6 x7 x8 x9;cases rc with
     | false=>
      have HN:Hid (rb=false):=hid (by rw[HBH.out,HE.out];rfl);have gx:=cell_regrown (HX.out wr (Below.refl _ wr));have CR:=hid (fun (d:Nat) (os:Array Obj)=>Calls.regrown_of (d:=d) (os:=os) (HRI.out _ (below_regrown wr d os)));go_wp2_with fail;refine wp_region_quiet_below (by kernel_rfl) (by kernel_rfl) ?_;repeat (go_big_quiet_step (first | with_reducible exact CR.out _ _))
      refine wpQuiet_nil ?_;intro _ hw';obtain⟨⟨dq,osq⟩,hw''⟩:=hw';subst hw'';go_wp2;go_ret;exact⟨ret_b56 HN.out.symm,HBW.out.trans ((below_regrown _ dq osq).mono HBW.out.size)⟩
     | true=>
      obtain⟨sm,hsm⟩:∃ b,sameC (homeC c.cells) c.cells=b:=⟨_,rfl⟩
      have HSM:=hid hsm;rw[hsm] at HE;clear hsm;refine wp_region_J (by kernel_rfl) (fun listed act w'=>∃ b0 b1 b2 b3 b4 b5 b6 b7 b8 b9 b10 b11 b12 b13 b14 b15 b16 b17 b18 b19 b20 b21 b22 b23 b24 b25 v114 v115 v116 v117 v118 v119 v120 v121 v122 v123 v124 v125 v126 v127 v128 v129 v130 v131 v132 v133 v134 v135 v136 v137 v138 v139,listed=#[b0,b1,b2,b3,b4,b5,b6,b7,b8,b9,b10,b11,b12,b13,b14,b15,b16,b17,b18,b19,b20,b21,b22,b23,b24,b25]∧act=Act.mk #[.agg #[.int .i64 c.kind,.int .i64 c.x,.int .i64 c.y,.int .i64 c.n,.int .i64 c.m,Value.string (nmV c),.slice A c.cells.length cap,.int .i64 c.p,.int .i64 c.dx,.int .i64 c.dy],.pointer (some ⟨w.heap.size,0,none⟩),u2,.slice FA fb.length fc,.pointer (some ⟨p5,0,none⟩),.bool true,.int .i64 ↑k,u7,u8,.pointer (some ⟨w.heap.size,0,none⟩),.int .i64 c.kind,.slice FA fb.length fc,.slice FA fb.length fc,.int .i64 ↑fb.length,.bool false,.pointer (some ⟨w.heap.size,0,none⟩),.int .i64 c.kind,.agg #[.int .i64 c.kind,.int .i64 0,.int .i64 0,.int .i64 0,.int .i64 0,Value.string { data:=#[] },.slice none 0 0,.int .i64 0,.int .i64 0,.int .i64 0],.int .i64 ↑k,.slice FA fb.length fc,.int .i64 ↑fb.length,.bool false,u22,u23,u24,u25,u26,u27,u28,u29,u30,u31,u32,u33,u34,u35,u36,u37,u38,u39,u40,u41,u42,u43,u44,u45,u46,u47,u48,u49,u50,u51,u52,u53,u54,u55,u56,u57,u58,u59,u60,u61,u62,u63,u64,u65,u66,u67,u68,u69,u70,u71,u72,u73,u74,u75,u76,u77,u78,u79,u80,u81,u82,u83,u84,u85,u86,u87,u88,u89,u90,u91,u92,u93,u94,u95,u96,u97,u98,u99,u100,u101,u102,u103,u104,u105,u106,u107,u108,u109,u110,u111,u112,u113,v114,v115,v116,v117,v118,v119,v120,v121,v122,v123,v124,v125,v126,v127,v128,v129,v130,v131,v132,v133,v134,v135,v136,v137,v138,v139,undef,undef,undef,undef,undef,undef,undef,undef,undef,undef,undef,undef,undef,undef,undef,undef,undef,undef,undef,undef,undef,undef,undef,undef,undef,undef,undef,undef,undef,undef,undef,undef,undef,undef,undef,undef,undef,undef,undef,undef] []∧RGt wr w.heap.size A c.cells.length cap (homeC c.cells) sm b0 b1 b2 b3 b4 b5 b6 b7 b8 b9 b10 b11 b12 b13 b14 b15 b16 b17 b18 b19 b20 b21 b22 b23 b24 b25 v114 v115 v116 v117 v118 v119 v120 v121 v122 v123 v124 v125 v126 v127 v128 v129 v130 v131 v132 v133 v134 v135 v136 v137 v138 v139 w') ?_ ?_ ?_
      ·exact (e_8 (e_8 (e_8 (e_8 (e_8 (e_8 (e_4 ⟨rfl,rfl,(by constructor;(case below=>exact (Below.refl _ wr).drew);all_goals simp)⟩)))))))
      ·rintro i listed act w' hi ⟨b0,b1,b2,b3,b4,b5,b6,b7,b8,b9,b10,b11,b12,b13,b14,b15,b16,b17,b18,b19,b20,b21,b22,b23,b24,b25,v114,v115,v116,v117,v118,v119,v120,v121,v122,v123,v124,v125,v126,v127,v128,v129,v130,v131,v132,v133,v134,v135,v136,v137,v138,v139,rfl,rfl,H⟩;have hi16:i < 26:=by
        obtain⟨-,o,ho,-⟩:=mem_ready.1 hi;exact (Array.getElem?_eq_some_iff.1 ho).1
       obtain rfl | rfl | rfl | rfl | rfl | rfl | rfl | rfl | rfl | rfl | rfl | rfl | rfl | rfl | rfl | rfl | rfl | rfl | rfl | rfl | rfl | rfl | rfl | rfl | rfl | rfl:i=0∨i=1∨i=2∨i=3∨i=4∨i=5∨i=6∨i=7∨i=8∨i=9∨i=10∨i=11∨i=12∨i=13∨i=14∨i=15∨i=16∨i=17∨i=18∨i=19∨i=20∨i=21∨i=22∨i=23∨i=24∨i=25:=by omega
       all_goals simp[mem_ready,Region.binds] at hi
       ·refine wpOp_hidden rfl fun K hK=>?_;go_wp2;refine OnlyN.mk (hK.out _ _ (e_8 (e_8 (e_8 (e_8 (e_8 (e_8 (e_4 ⟨rfl,rfl,{ H with h0:=fun _=>rfl }⟩))))))))
       ·obtain rfl:=H.h0 (by simp[hi]);refine wpOp_hidden rfl fun K hK=>?_;go_wp2;refine OnlyN.mk (hK.out _ _ (e_8 (e_8 (e_8 (e_8 (e_8 (e_8 (e_4 ⟨rfl,rfl,{ H with h1:=fun _=>rfl }⟩))))))))
       ·obtain rfl:=H.h1 (by simp[hi]);refine wpOp_hidden rfl fun K hK=>?_;go_wp2;refine OnlyN.mk (hK.out _ _ (e_8 (e_8 (e_8 (e_8 (e_8 (e_8 (e_4 ⟨rfl,rfl,{ H with h2:=fun _=>rfl }⟩))))))))
       ·obtain rfl:=H.h1 (by simp[hi]);obtain rfl:=H.h2 (by simp[hi]);have gx:=HX.out w' H.below;refine wpOp_hidden rfl fun K hK=>?_;go_wp2;refine OnlyN.mk (hK.out _ _ (e_8 (e_8 (e_8 (e_8 (e_8 (e_8 (e_4 ⟨rfl,rfl,{ H with h3:=fun _=>rfl }⟩))))))))
       ·obtain rfl:=H.h1 (by simp[hi]);obtain rfl:=H.h3 (by simp[hi]);have HB0:=hid (H.below);have hcall:=HRI.out w' HB0.out;have HCALL:=hid hcall;clear hcall;refine wpOp_hidden rfl fun K hK=>?_;go_wp2_with (go_at_call 50;refine HCALL.out.mono ?_;intro e w9 hx;obtain⟨rfl,hb9⟩:=hx;refine Hid.out ?_);refine hid ?_;have HB9:=hid hb9;clear hb9 HCALL;go_wp2;refine OnlyN.mk (hK.out _ _ (e_8 (e_8 (e_8 (e_8 (e_8 (e_8 (e_4 ⟨rfl,rfl,{ H.world HB9.out with h4:=fun _=>rfl }⟩))))))))
       ·obtain rfl:=H.h1 (by simp[hi]);obtain rfl:=H.h4 (by simp[hi]);refine wpOp_hidden rfl fun K hK=>?_;go_wp2;refine OnlyN.mk (hK.out _ _ (e_8 (e_8 (e_8 (e_8 (e_8 (e_8 (e_4 ⟨rfl,rfl,{ H with h5:=fun _=>rfl }⟩))))))))
       ·obtain rfl:=H.h1 (by simp[hi]);obtain rfl:=H.h5 (by simp[hi]);refine wpOp_hidden rfl fun K hK=>?_;go_wp2;refine OnlyN.mk (hK.out _ _ (e_8 (e_8 (e_8 (e_8 (e_8 (e_8 (e_4 ⟨rfl,rfl,{ H with h6:=fun _=>rfl }⟩))))))))
       ·obtain rfl:=H.h6 (by simp[hi]);refine wpOp_hidden rfl fun K hK=>?_;go_wp2;refine OnlyN.mk (hK.out _ _ (e_8 (e_8 (e_8 (e_8 (e_8 (e_8 (e_4 ⟨rfl,rfl,{ H with h7:=fun _=>rfl }⟩))))))))
       ·obtain rfl:=H.h6 (by simp[hi]);obtain rfl:=H.h7 (by simp[hi]);have gx:=HX.out w' H.below;refine wpOp_hidden rfl fun K hK=>?_;go_wp2;refine OnlyN.mk (hK.out _ _ (e_8 (e_8 (e_8 (e_8 (e_8 (e_8 (e_4 ⟨rfl,rfl,{ H with h8:=fun _=>rfl }⟩))))))))
       ·obtain rfl:=H.h6 (by simp[hi]);obtain rfl:=H.h8 (by simp[hi]);have HB0:=hid (H.below);have hcall:=rhome_any A cap c.cells w' (HCW.out.ext HB0.out);have HCALL:=hid hcall;clear hcall;refine wpOp_hidden rfl fun K hK=>?_;go_wp2_with (go_at_call 52;refine HCALL.out.mono ?_;intro e w9 hx;obtain⟨A6,c6,rfl,hcl,hA6,hb9⟩:=hx;refine Hid.out ?_);refine hid ?_;have HB9:=hid hb9;have HCL6:=hid hcl;clear hcl hA6;clear hb9 HCALL;go_wp2;refine OnlyN.mk (hK.out _ _ (e_8 (e_8 (e_8 (e_8 (e_8 (e_8 (e_4 ⟨rfl,rfl,{ H.world HB9.out with t9:=fun _=>⟨A6,c6,rfl,HCL6.out⟩ }⟩))))))))
       ·obtain rfl:=H.h6 (by simp[hi]);refine wpOp_hidden rfl fun K hK=>?_;go_wp2;refine OnlyN.mk (hK.out _ _ (e_8 (e_8 (e_8 (e_8 (e_8 (e_8 (e_4 ⟨rfl,rfl,{ H with h10:=fun _=>rfl }⟩))))))))
       ·obtain rfl:=H.h6 (by simp[hi]);obtain rfl:=H.h10 (by simp[hi]);have gx:=HX.out w' H.below;refine wpOp_hidden rfl fun K hK=>?_;go_wp2;refine OnlyN.mk (hK.out _ _ (e_8 (e_8 (e_8 (e_8 (e_8 (e_8 (e_4 ⟨rfl,rfl,{ H with h11:=fun _=>rfl }⟩))))))))
       ·obtain rfl:=H.h6 (by simp[hi]);obtain rfl:=H.h11 (by simp[hi]);obtain⟨A6,c6,rfl,ht9⟩:=(H.t9 (by simp[hi]))
        have HB0:=hid (H.below);have hcall:=rsame_any A6 A c6 cap (homeC c.cells) c.cells w' ht9 (HCW.out.ext HB0.out);rw[HSM.out] at hcall;have HCALL:=hid hcall;clear hcall;refine wpOp_hidden rfl fun K hK=>?_;go_wp2_with (go_at_call 51;refine HCALL.out.mono ?_;intro e w9 hx;obtain⟨rfl,hb9⟩:=hx;refine Hid.out ?_);refine hid ?_;have HB9:=hid hb9;clear hb9 HCALL;go_wp2;refine OnlyN.mk (hK.out _ _ (e_8 (e_8 (e_8 (e_8 (e_8 (e_8 (e_4 ⟨rfl,rfl,{ H.world HB9.out with h12:=fun _=>rfl }⟩))))))))
       ·obtain rfl:=H.h6 (by simp[hi]);obtain rfl:=H.h12 (by simp[hi]);refine wpOp_hidden rfl fun K hK=>?_;go_wp2;refine OnlyN.mk (hK.out _ _ (e_8 (e_8 (e_8 (e_8 (e_8 (e_8 (e_4 ⟨rfl,rfl,{ H with h13:=fun _=>rfl }⟩))))))))
       ·obtain rfl:=H.h1 (by simp[hi]);obtain rfl:=H.h6 (by simp[hi]);obtain rfl:=H.h13 (by simp[hi]);refine wpOp_hidden rfl fun K hK=>?_;go_wp2;refine OnlyN.mk (hK.out _ _ (e_8 (e_8 (e_8 (e_8 (e_8 (e_8 (e_4 ⟨rfl,rfl,{ H with h14:=fun _=>rfl }⟩))))))))
       ·obtain rfl:=H.h1 (by simp[hi]);obtain rfl:=H.h14 (by simp[hi]);refine wpOp_hidden rfl fun K hK=>?_;go_wp2;refine OnlyN.mk (hK.out _ _ (e_8 (e_8 (e_8 (e_8 (e_8 (e_8 (e_4 ⟨rfl,rfl,{ H with h15:=fun _=>rfl }⟩))))))))
       ·obtain rfl:=H.h15 (by simp[hi]);refine wpOp_hidden rfl fun K hK=>?_;go_wp2;refine OnlyN.mk (hK.out _ _ (e_8 (e_8 (e_8 (e_8 (e_8 (e_8 (e_4 ⟨rfl,rfl,{ H with h16:=fun _=>rfl }⟩))))))))
       ·obtain rfl:=H.h16 (by simp[hi]);cases sm with
        | true=>
         refine wpOp_hidden rfl fun K hK=>?_;go_wp2;refine OnlyN.mk (hK.out _ _ (e_8 (e_8 (e_8 (e_8 (e_8 (e_8 (e_4 ⟨rfl,rfl,{ H with h17:=fun _=>rfl }⟩))))))))
        | false=>
         exact wpOp_skip rfl (by rfl) (e_8 (e_8 (e_8 (e_8 (e_8 (e_8 (e_4 ⟨rfl,rfl,{ H with h17:=fun _=>rfl }⟩)))))))
       ·obtain rfl:=H.h16 (by simp[hi]);obtain rfl:=H.h17 (by simp[hi]);cases sm with
        | true=>
         refine wpOp_hidden rfl fun K hK=>?_;go_wp2;refine OnlyN.mk (hK.out _ _ (e_8 (e_8 (e_8 (e_8 (e_8 (e_8 (e_4 ⟨rfl,rfl,{ H with h18:=fun _=>rfl }⟩))))))))
        | false=>
         exact wpOp_skip rfl (by rfl) (e_8 (e_8 (e_8 (e_8 (e_8 (e_8 (e_4 ⟨rfl,rfl,{ H with h18:=fun _=>rfl }⟩)))))))
       ·obtain rfl:=H.h16 (by simp[hi]);obtain rfl:=H.h18 (by simp[hi]);cases sm with
        | true=>
         refine wpOp_hidden rfl fun K hK=>?_;go_wp2;refine OnlyN.mk (hK.out _ _ (e_8 (e_8 (e_8 (e_8 (e_8 (e_8 (e_4 ⟨rfl,rfl,{ H with h19:=fun _=>rfl }⟩))))))))
        | false=>
         exact wpOp_skip rfl (by rfl) (e_8 (e_8 (e_8 (e_8 (e_8 (e_8 (e_4 ⟨rfl,rfl,{ H with h19:=fun _=>rfl }⟩)))))))
       ·obtain rfl:=H.h19 (by simp[hi]);cases sm with
        | true=>exact wpOp_skip rfl (by rfl) (e_8 (e_8 (e_8 (e_8 (e_8 (e_8 (e_4 ⟨rfl,rfl,{ H with h20:=fun _=>rfl }⟩)))))))
        | false=>exact wpOp_skip rfl (by rfl) (e_8 (e_8 (e_8 (e_8 (e_8 (e_8 (e_4 ⟨rfl,rfl,{ H with h20:=fun _=>rfl }⟩)))))))
       ·obtain rfl:=H.h19 (by simp[hi]);cases sm with
        | true=>exact wpOp_skip rfl (by rfl) (e_8 (e_8 (e_8 (e_8 (e_8 (e_8 (e_4 ⟨rfl,rfl,{ H with h21:=fun _=>rfl }⟩)))))))
        | false=>exact wpOp_skip rfl (by rfl) (e_8 (e_8 (e_8 (e_8 (e_8 (e_8 (e_4 ⟨rfl,rfl,{ H with h21:=fun _=>rfl }⟩)))))))
       ·obtain rfl:=H.h19 (by simp[hi]);cases sm with
        | true=>exact wpOp_skip rfl (by rfl) (e_8 (e_8 (e_8 (e_8 (e_8 (e_8 (e_4 ⟨rfl,rfl,{ H with h22:=fun _=>rfl }⟩)))))))
        | false=>exact wpOp_skip rfl (by rfl) (e_8 (e_8 (e_8 (e_8 (e_8 (e_8 (e_4 ⟨rfl,rfl,{ H with h22:=fun _=>rfl }⟩)))))))
       ·obtain rfl:=H.h19 (by simp[hi]);cases sm with
        | true=>exact wpOp_skip rfl (by rfl) (e_8 (e_8 (e_8 (e_8 (e_8 (e_8 (e_4 ⟨rfl,rfl,{ H with h23:=fun _=>rfl }⟩)))))))
        | false=>exact wpOp_skip rfl (by rfl) (e_8 (e_8 (e_8 (e_8 (e_8 (e_8 (e_4 ⟨rfl,rfl,{ H with h23:=fun _=>rfl }⟩)))))))
       ·obtain rfl:=H.h16 (by simp[hi]);obtain rfl:=H.h19 (by simp[hi]);cases sm with
        | true=>
         refine wpOp_hidden rfl fun K hK=>?_;go_wp2;refine OnlyN.mk (hK.out _ _ (e_8 (e_8 (e_8 (e_8 (e_8 (e_8 (e_4 ⟨rfl,rfl,{ H with h24:=fun _=>rfl }⟩))))))))
        | false=>
         exact wpOp_skip rfl (by rfl) (e_8 (e_8 (e_8 (e_8 (e_8 (e_8 (e_4 ⟨rfl,rfl,{ H with h24:=fun _=>rfl }⟩)))))))
       ·obtain rfl:=H.h16 (by simp[hi]);obtain rfl:=H.h24 (by simp[hi]);cases sm with
        | true=>
         refine wpOp_hidden rfl fun K hK=>?_;go_wp2;refine OnlyN.mk (hK.out _ _ (e_8 (e_8 (e_8 (e_8 (e_8 (e_8 (e_4 ⟨rfl,rfl,{ H with h25:=fun _=>rfl }⟩))))))))
        | false=>
         refine wpOp_hidden rfl fun K hK=>?_;go_wp2;refine OnlyN.mk (hK.out _ _ (e_8 (e_8 (e_8 (e_8 (e_8 (e_8 (e_4 ⟨rfl,rfl,{ H with h25:=fun _=>rfl }⟩))))))))
      ·rintro listed act w' hr ⟨b0,b1,b2,b3,b4,b5,b6,b7,b8,b9,b10,b11,b12,b13,b14,b15,b16,b17,b18,b19,b20,b21,b22,b23,b24,b25,v114,v115,v116,v117,v118,v119,v120,v121,v122,v123,v124,v125,v126,v127,v128,v129,v130,v131,v132,v133,v134,v135,v136,v137,v138,v139,rfl,rfl,H⟩;have hn:=List.eq_nil_iff_forall_not_mem.1 hr;have r0:=hn 0;simp[mem_ready,Region.binds] at r0;subst r0;have r1:=hn 1;simp[mem_ready,Region.binds] at r1;subst r1;have r2:=hn 2;simp[mem_ready,Region.binds] at r2;subst r2;have r3:=hn 3;simp[mem_ready,Region.binds] at r3;subst r3;have r4:=hn 4;simp[mem_ready,Region.binds] at r4;subst r4;have r5:=hn 5;simp[mem_ready,Region.binds] at r5;subst r5;have r6:=hn 6;simp[mem_ready,Region.binds] at r6;subst r6;have r7:=hn 7;simp[mem_ready,Region.binds] at r7;subst r7;have r8:=hn 8;simp[mem_ready,Region.binds] at r8;subst r8;have r9:=hn 9;simp[mem_ready,Region.binds] at r9;subst r9;have r10:=hn 10;simp[mem_ready,Region.binds] at r10;subst r10;have r11:=hn 11;simp[mem_ready,Region.binds] at r11;subst r11;have r12:=hn 12;simp[mem_ready,Region.binds] at r12;subst r12;have r13:=hn 13;simp[mem_ready,Region.binds] at r13;subst r13;have r14:=hn 14;simp[mem_ready,Region.binds] at r14;subst r14;have r15:=hn 15;simp[mem_ready,Region.binds] at r15;subst r15;have r16:=hn 16;simp[mem_ready,Region.binds] at r16;subst r16;have r17:=hn 17;simp[mem_ready,Region.binds] at r17;subst r17;have r18:=hn 18;simp[mem_ready,Region.binds] at r18;subst r18;have r19:=hn 19;simp[mem_ready,Region.binds] at r19;subst r19;have r20:=hn 20;simp[mem_ready,Region.binds] at r20;subst r20;have r21:=hn 21;simp[mem_ready,Region.binds] at r21;subst r21;have r22:=hn 22;simp[mem_ready,Region.binds] at r22;subst r22;have r23:=hn 23;simp[mem_ready,Region.binds] at r23;subst r23;have r24:=hn 24;simp[mem_ready,Region.binds] at r24;subst r24;have r25:=hn 25;simp[mem_ready,Region.binds] at r25;subst r25;obtain rfl:=H.h25 (by simp);cases sm with
       | false=>
        have HN:Hid (rb=false):=hid (by rw[HBH.out,HE.out];rfl);have HB9:=hid (HBW.out.trans (H.below.mono HBW.out.size));go_wp2;go_ret;exact⟨ret_b56 HN.out.symm,HB9.out⟩
       | true=>
        have HBH2:Hid (rb=(decide (o.x=c.x) && decide (o.y=c.y) && decide (o.n=c.n) && decide (o.m=c.m) && decide (o.name=c.name) && (decide (o.p=c.p) && decide (o.dx=c.dx) && decide (o.dy=c.dy)))):=hid (by rw[HBH.out,HE.out];rfl);clear HBH HE;have HBy:=hid (HBW.out.trans (H.below.mono HBW.out.size));have hkc:=HKC.out.below H.below HKC.out.lt;have hkp:=HKP.out.below H.below HKP.out.lt;have z1:w'.cell? ⟨p5,1,none⟩=some (.int .i64 o.x):=hkc.cell_ 1 _ rfl;have z2:w'.cell? ⟨p5,2,none⟩=some (.int .i64 o.y):=hkc.cell_ 2 _ rfl;have z3:w'.cell? ⟨p5,3,none⟩=some (.int .i64 o.n):=hkc.cell_ 3 _ rfl;have z4:w'.cell? ⟨p5,4,none⟩=some (.int .i64 o.m):=hkc.cell_ 4 _ rfl;have z5:w'.cell? ⟨p5,5,none⟩=some (.string (nmV o)):=hkc.cell_ 5 _ rfl;have z7:w'.cell? ⟨p5,7,none⟩=some (.int .i64 o.p):=hkc.cell_ 7 _ rfl;have z8:w'.cell? ⟨p5,8,none⟩=some (.int .i64 o.dx):=hkc.cell_ 8 _ rfl;have z9:w'.cell? ⟨p5,9,none⟩=some (.int .i64 o.dy):=hkc.cell_ 9 _ rfl;have x1:w'.cell? ⟨w.heap.size,1,none⟩=some (.int .i64 c.x):=hkp.cell_ 1 _ rfl;have x2:w'.cell? ⟨w.heap.size,2,none⟩=some (.int .i64 c.y):=hkp.cell_ 2 _ rfl;have x3:w'.cell? ⟨w.heap.size,3,none⟩=some (.int .i64 c.n):=hkp.cell_ 3 _ rfl;have x4:w'.cell? ⟨w.heap.size,4,none⟩=some (.int .i64 c.m):=hkp.cell_ 4 _ rfl;have x5:w'.cell? ⟨w.heap.size,5,none⟩=some (.string (nmV c)):=hkp.cell_ 5 _ rfl;have x6:w'.cell? ⟨w.heap.size,6,none⟩=some (.slice A c.cells.length cap):=hkp.cell_ 6 _ rfl;have x7:w'.cell? ⟨w.heap.size,7,none⟩=some (.int .i64 c.p):=hkp.cell_ 7 _ rfl;have x8:w'.cell? ⟨w.heap.size,8,none⟩=some (.int .i64 c.dx):=hkp.cell_ 8 _ rfl;have x9:w'.cell? ⟨w.heap.size,9,none⟩=some (.int .i64 c.dy):=hkp.cell_ 9 _ rfl;clear hkc hkp H;clear hwk hk dk hnlt;go_wp2
        all_goals
         go_ret;refine⟨ret_b56 ?_,HBy.out⟩;rw[HBH2.out]
         first
         | (rw[decide_eq_false (p:=o.x=c.x) (by assumption)];simp;done)
         | (rw[decide_eq_false (p:=o.y=c.y) (by assumption)];simp;done)
         | (rw[decide_eq_false (p:=o.n=c.n) (by assumption)];simp;done)
         | (rw[decide_eq_false (p:=o.m=c.m) (by assumption)];simp;done)
         | (rw[decide_eq_false (p:=o.p=c.p) (by assumption)];simp;done)
         | (rw[decide_eq_false (p:=o.dx=c.dx) (by assumption)];simp;done)
         | (rw[decide_eq_false (p:=o.dy=c.dy) (by assumption)];simp;done)
         | (rw[decide_eq_false (p:=o.name=c.name) (fun h=>absurd (HQN.out.2 h) (by assumption))];simp;done)
         | (rw[decide_eq_true (p:=o.x=c.x) (by assumption),decide_eq_true (p:=o.y=c.y) (by assumption),decide_eq_true (p:=o.n=c.n) (by assumption),decide_eq_true (p:=o.m=c.m) (by assumption),decide_eq_true (p:=o.name=c.name) (HQN.out.1 (by assumption)),decide_eq_true (p:=o.p=c.p) (by assumption),decide_eq_true (p:=o.dx=c.dx) (by assumption),decide_eq_true (p:=o.dy=c.dy) (by assumption)];rfl)
end Go.Proofs.YtcfelnhmifkelaaGreatDoor
