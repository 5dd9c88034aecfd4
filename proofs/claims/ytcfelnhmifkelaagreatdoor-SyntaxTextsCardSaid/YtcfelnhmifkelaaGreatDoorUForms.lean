/-
  texts Forms: parts of the proof; conditions stand with each theorem.
-/
import Derived.Test.YtcfelnhmifkelaaGreatDoorUG15
import Derived.Test.YtcfelnhmifkelaaGreatDoorUG1
import Derived.Test.YtcfelnhmifkelaaGreatDoorUG14
namespace Go.Proofs.YtcfelnhmifkelaaGreatDoor
open Lib(hid)
open Go.RowKit
set_option maxRecDepth 100000
set_option linter.unusedVariables false
set_option linter.unusedSimpArgs false
def RetFm (w:World)(e:Ending)(w':World):Prop:=∃ v,e=.returned v∧FmA w' v formsP∧Below w.heap.size w w'
def motS:List Slot:=[nmbS 7 1 64,nmbS 8 (-1048576) 1048576,nmbS 9 (-1048576) 1048576]
theorem SsA.lit2 {w:World}{v0 v1:Value}{l0 l1:List Slot}(h0:SlA w v0 l0)(h1:SlA w v1 l1):SsA (w.alloc (.cells #[v0,v1] 50)) (.slice (some ⟨w.heap.size,0,none⟩) 2 2) [l0,l1]:=
 SsA.lit w #[v0,v1] [l0,l1] rfl (fun i h h2=>match i,h with | 0,_=>h0 | 1,_=>h1) (by simp)
theorem SsA.lit3 {w:World}{v0 v1 v2:Value}{l0 l1 l2:List Slot}(h0:SlA w v0 l0)(h1:SlA w v1 l1)(h2:SlA w v2 l2):SsA (w.alloc (.cells #[v0,v1,v2] 50)) (.slice (some ⟨w.heap.size,0,none⟩) 3 3) [l0,l1,l2]:=
 SsA.lit w #[v0,v1,v2] [l0,l1,l2] rfl (fun i h h'=>match i,h with | 0,_=>h0 | 1,_=>h1 | 2,_=>h2) (by simp)
theorem fm12 {w:World}{s0 s1 s2 s3 s4 s5 s6 s7 s8 s9 s10 s11:Value}(h0:SlA w s0 formsP[0].slots)(h1:SlA w s1 formsP[1].slots)(h2:SlA w s2 formsP[2].slots)(h3:SlA w s3 formsP[3].slots)(h4:SlA w s4 formsP[4].slots)(h5:SlA w s5 formsP[5].slots)(h6:SlA w s6 formsP[6].slots)(h7:SlA w s7 formsP[7].slots)(h8:SlA w s8 formsP[8].slots)(h9:SlA w s9 formsP[9].slots)(h10:SlA w s10 formsP[10].slots)(h11:SlA w s11 formsP[11].slots):FmA (w.alloc (.cells #[.string ⟨#[114,117,108,101]⟩,.int .i64 1,s0,.string ⟨#[99,101,108,108,115]⟩,.int .i64 2,s1,.string ⟨#[112,117,116]⟩,.int .i64 3,s2,.string ⟨#[115,104,105,112]⟩,.int .i64 4,s3,.string ⟨#[115,104,111,116]⟩,.int .i64 5,s4,.string ⟨#[114,117,110]⟩,.int .i64 6,s5,.string ⟨#[101,120,112,101,99,116]⟩,.int .i64 7,s6,.string ⟨#[99,108,101,97,114]⟩,.int .i64 8,s7,.string ⟨#[115,97,118,101]⟩,.int .i64 9,s8,.string ⟨#[112,114,105,110,116]⟩,.int .i64 10,s9,.string ⟨#[99,101,110,115,117,115]⟩,.int .i64 11,s10,.string ⟨#[99,111,117,110,116]⟩,.int .i64 12,s11] 52)) (.slice (some ⟨w.heap.size,0,none⟩) 12 12) formsP:=
 FmA.lit w _ formsP [s0,s1,s2,s3,s4,s5,s6,s7,s8,s9,s10,s11] rfl rfl (fun i hh hh2=>match i,hh with | 0,_=>h0 | 1,_=>h1 | 2,_=>h2 | 3,_=>h3 | 4,_=>h4 | 5,_=>h5 | 6,_=>h6 | 7,_=>h7 | 8,_=>h8 | 9,_=>h9 | 10,_=>h10 | 11,_=>h11) (by decide)
structure FormJS where
 b0:Bool
 b1:Bool
 b2:Bool
 b3:Bool
 b4:Bool
 b5:Bool
 b6:Bool
 b7:Bool
 b8:Bool
 b9:Bool
 b10:Bool
 b11:Bool
 b12:Bool
 b13:Bool
 b14:Bool
 b15:Bool
 b16:Bool
 b17:Bool
 b18:Bool
 b19:Bool
 b20:Bool
 b21:Bool
 b22:Bool
 b23:Bool
 b24:Bool
 b25:Bool
 b26:Bool
 b27:Bool
 b28:Bool
 b29:Bool
 b30:Bool
 b31:Bool
 b32:Bool
 b33:Bool
 b34:Bool
 b35:Bool
 b36:Bool
 b37:Bool
 b38:Bool
 b39:Bool
 b40:Bool
 b41:Bool
 b42:Bool
 b43:Bool
 b44:Bool
 b45:Bool
 b46:Bool
 b47:Bool
 b48:Bool
 b49:Bool
 b50:Bool
 b51:Bool
 b52:Bool
 b53:Bool
 b54:Bool
 v16:Value
 v17:Value
 v18:Value
 v19:Value
 v20:Value
 v21:Value
 v22:Value
 v23:Value
 v24:Value
 v25:Value
 v26:Value
 v27:Value
 v28:Value
 v29:Value
 v30:Value
 v31:Value
 v32:Value
 v33:Value
 v34:Value
 v35:Value
 v36:Value
 v37:Value
 v38:Value
 v39:Value
 v40:Value
 v41:Value
 v42:Value
 v43:Value
 v44:Value
 v45:Value
 v46:Value
 v47:Value
 v48:Value
 v49:Value
 v50:Value
 v51:Value
 v52:Value
 v53:Value
 v54:Value
 v55:Value
 v56:Value
 v57:Value
 v58:Value
 v59:Value
 v60:Value
 v61:Value
 v62:Value
 v63:Value
 v64:Value
 v65:Value
 v66:Value
 v67:Value
 v68:Value
 v69:Value
 v0:Value
structure FormJ (W:World)(pA:Nat)(pM:Nat)(s:FormJS)(w:World):Prop where
 h0:s.b0=true→s.v16=.agg #[.int .i64 1,.string ⟨#[]⟩,.nilFunc,.int .i64 0,.int .i64 0]
 h3:s.b3=true→s.v19=.agg #[.int .i64 2,.string ⟨#[]⟩,.nilFunc,.int .i64 0,.int .i64 0]
 h4:s.b4=true→s.v20=.agg #[.int .i64 3,.string ⟨#[]⟩,.nilFunc,.int .i64 0,.int .i64 0]
 h7:s.b7=true→s.v23=.func (.func 61) #[] #[]
 h8:s.b8=true→s.v24=.agg #[.int .i64 2,.string ⟨#[]⟩,.nilFunc,.int .i64 0,.int .i64 0]
 h10:s.b10=true→s.v26=.slice (some ⟨pA,0,none⟩) 3 3
 h11:s.b11=true→s.v27=.agg #[.int .i64 0,.string ⟨#[116,117,114,110]⟩,.nilFunc,.int .i64 0,.int .i64 0]
 h12:s.b12=true→s.v28=.agg #[.int .i64 4,.string ⟨#[]⟩,.func (.func 62) #[] #[],.int .i64 0,.int .i64 7]
 h17:s.b17=true→s.v33=.func (.func 61) #[] #[]
 h18:s.b18=true→s.v34=.agg #[.int .i64 2,.string ⟨#[]⟩,.nilFunc,.int .i64 0,.int .i64 0]
 h20:s.b20=true→s.v36=.slice (some ⟨pM,0,none⟩) 3 3
 h24:s.b24=true→s.v40=.func (.func 61) #[] #[]
 h25:s.b25=true→s.v41=.agg #[.int .i64 2,.string ⟨#[]⟩,.nilFunc,.int .i64 0,.int .i64 0]
 h26:s.b26=true→s.v42=.agg #[.int .i64 0,.string ⟨#[112,104,97,115,101]⟩,.nilFunc,.int .i64 0,.int .i64 0]
 h27:s.b27=true→s.v43=.agg #[.int .i64 4,.string ⟨#[]⟩,.func (.func 62) #[] #[],.int .i64 0,.int .i64 10000]
 h29:s.b29=true→s.v45=.slice (some ⟨pA,0,none⟩) 3 3
 h30:s.b30=true→s.v46=.agg #[.int .i64 0,.string ⟨#[116,117,114,110]⟩,.nilFunc,.int .i64 0,.int .i64 0]
 h31:s.b31=true→s.v47=.agg #[.int .i64 4,.string ⟨#[]⟩,.func (.func 63) #[] #[],.int .i64 0,.int .i64 7]
 h36:s.b36=true→s.v52=.agg #[.int .i64 4,.string ⟨#[]⟩,.func (.func 62) #[] #[],.int .i64 0,.int .i64 10000]
 h39:s.b39=true→s.v55=.func (.func 61) #[] #[]
 h40:s.b40=true→s.v56=.agg #[.int .i64 2,.string ⟨#[]⟩,.nilFunc,.int .i64 0,.int .i64 0]
 h42:s.b42=true→s.v58=.slice (some ⟨pA,0,none⟩) 3 3
 h47:s.b47=true→s.v63=.agg #[.int .i64 2,.string ⟨#[]⟩,.nilFunc,.int .i64 0,.int .i64 0]
 below:Below W.heap.size W w
 s1:s.b1=true→SlA w s.v17 ([⟨1,[],0,0,0⟩])
 s2:s.b2=true→∃ sv,s.v18=.agg #[.string ⟨#[114,117,108,101]⟩,.int .i64 1,sv]∧SlA w sv ([⟨1,[],0,0,0⟩])
 s5:s.b5=true→SlA w s.v21 ([nameS,⟨3,[],0,0,0⟩])
 s6:s.b6=true→∃ sv,s.v22=.agg #[.string ⟨#[99,101,108,108,115]⟩,.int .i64 2,sv]∧SlA w sv ([nameS,⟨3,[],0,0,0⟩])
 s9:s.b9=true→SlA w s.v25 ([nameS])
 s13:s.b13=true→SlA w s.v29 ([turnS,nmbS 3 0 7])
 s14:s.b14=true→SsA w s.v30 [[nameS],atS,[turnS,nmbS 3 0 7]]
 s15:s.b15=true→SlA w s.v31 ([nameS] ++ atS ++ [turnS,nmbS 3 0 7])
 s16:s.b16=true→∃ sv,s.v32=.agg #[.string ⟨#[112,117,116]⟩,.int .i64 3,sv]∧SlA w sv ([nameS] ++ atS ++ [turnS,nmbS 3 0 7])
 s19:s.b19=true→SlA w s.v35 ([nameS])
 s21:s.b21=true→SsA w s.v37 [[nameS],motS]
 s22:s.b22=true→SlA w s.v38 ([nameS] ++ motS)
 s23:s.b23=true→∃ sv,s.v39=.agg #[.string ⟨#[115,104,105,112]⟩,.int .i64 4,sv]∧SlA w sv ([nameS] ++ motS)
 s28:s.b28=true→SlA w s.v44 ([nameS,fixS [112,104,97,115,101],nmbS 3 0 10000])
 s32:s.b32=true→SlA w s.v48 ([turnS,nmbS 4 0 7])
 s33:s.b33=true→SsA w s.v49 [[nameS,fixS [112,104,97,115,101],nmbS 3 0 10000],atS,[turnS,nmbS 4 0 7]]
 s34:s.b34=true→SlA w s.v50 ([nameS,fixS [112,104,97,115,101],nmbS 3 0 10000] ++ atS ++ [turnS,nmbS 4 0 7])
 s35:s.b35=true→∃ sv,s.v51=.agg #[.string ⟨#[115,104,111,116]⟩,.int .i64 5,sv]∧SlA w sv ([nameS,fixS [112,104,97,115,101],nmbS 3 0 10000] ++ atS ++ [turnS,nmbS 4 0 7])
 s37:s.b37=true→SlA w s.v53 ([nmbS 3 0 10000])
 s38:s.b38=true→∃ sv,s.v54=.agg #[.string ⟨#[114,117,110]⟩,.int .i64 6,sv]∧SlA w sv ([nmbS 3 0 10000])
 s41:s.b41=true→SlA w s.v57 ([nameS])
 s43:s.b43=true→SsA w s.v59 [[nameS],atS]
 s44:s.b44=true→SlA w s.v60 ([nameS] ++ atS)
 s45:s.b45=true→∃ sv,s.v61=.agg #[.string ⟨#[101,120,112,101,99,116]⟩,.int .i64 7,sv]∧SlA w sv ([nameS] ++ atS)
 s46:s.b46=true→∃ sv,s.v62=.agg #[.string ⟨#[99,108,101,97,114]⟩,.int .i64 8,sv]∧SlA w sv ([])
 s48:s.b48=true→SlA w s.v64 ([nameS])
 s49:s.b49=true→∃ sv,s.v65=.agg #[.string ⟨#[115,97,118,101]⟩,.int .i64 9,sv]∧SlA w sv ([nameS])
 s50:s.b50=true→∃ sv,s.v66=.agg #[.string ⟨#[112,114,105,110,116]⟩,.int .i64 10,sv]∧SlA w sv ([])
 s51:s.b51=true→∃ sv,s.v67=.agg #[.string ⟨#[99,101,110,115,117,115]⟩,.int .i64 11,sv]∧SlA w sv ([])
 s52:s.b52=true→∃ sv,s.v68=.agg #[.string ⟨#[99,111,117,110,116]⟩,.int .i64 12,sv]∧SlA w sv ([])
 s53:s.b53=true→FmA w s.v69 formsP
 s54:s.b54=true→FmA w s.v0 formsP
section
variable {W : World} {pA : Nat} {pM : Nat} {s : FormJS} {w w' : World}
theorem FormJ.world (H:FormJ W pA pM s w)(hb:Below w.heap.size w w'):FormJ W pA pM s w':=
 ⟨H.h0,H.h3,H.h4,H.h7,H.h8,H.h10,H.h11,H.h12,H.h17,H.h18,H.h20,H.h24,H.h25,H.h26,H.h27,H.h29,H.h30,H.h31,H.h36,H.h39,H.h40,H.h42,H.h47,H.below.trans (hb.mono H.below.size),fun h=>(H.s1 h).ext hb,fun h=>(by obtain⟨sv,e,i⟩:=H.s2 h;exact⟨sv,e,i.ext hb⟩),fun h=>(H.s5 h).ext hb,fun h=>(by obtain⟨sv,e,i⟩:=H.s6 h;exact⟨sv,e,i.ext hb⟩),fun h=>(H.s9 h).ext hb,fun h=>(H.s13 h).ext hb,fun h=>(H.s14 h).ext hb,fun h=>(H.s15 h).ext hb,fun h=>(by obtain⟨sv,e,i⟩:=H.s16 h;exact⟨sv,e,i.ext hb⟩),fun h=>(H.s19 h).ext hb,fun h=>(H.s21 h).ext hb,fun h=>(H.s22 h).ext hb,fun h=>(by obtain⟨sv,e,i⟩:=H.s23 h;exact⟨sv,e,i.ext hb⟩),fun h=>(H.s28 h).ext hb,fun h=>(H.s32 h).ext hb,fun h=>(H.s33 h).ext hb,fun h=>(H.s34 h).ext hb,fun h=>(by obtain⟨sv,e,i⟩:=H.s35 h;exact⟨sv,e,i.ext hb⟩),fun h=>(H.s37 h).ext hb,fun h=>(by obtain⟨sv,e,i⟩:=H.s38 h;exact⟨sv,e,i.ext hb⟩),fun h=>(H.s41 h).ext hb,fun h=>(H.s43 h).ext hb,fun h=>(H.s44 h).ext hb,fun h=>(by obtain⟨sv,e,i⟩:=H.s45 h;exact⟨sv,e,i.ext hb⟩),fun h=>(by obtain⟨sv,e,i⟩:=H.s46 h;exact⟨sv,e,i.ext hb⟩),fun h=>(H.s48 h).ext hb,fun h=>(by obtain⟨sv,e,i⟩:=H.s49 h;exact⟨sv,e,i.ext hb⟩),fun h=>(by obtain⟨sv,e,i⟩:=H.s50 h;exact⟨sv,e,i.ext hb⟩),fun h=>(by obtain⟨sv,e,i⟩:=H.s51 h;exact⟨sv,e,i.ext hb⟩),fun h=>(by obtain⟨sv,e,i⟩:=H.s52 h;exact⟨sv,e,i.ext hb⟩),fun h=>(H.s53 h).ext hb,fun h=>(H.s54 h).ext hb⟩
end
set_option maxHeartbeats 32000000 in
theorem forms_any (w:World):Calls Tryz.prog 25 #[] w (RetFm w):=by
 go_enter Tryz.func25,Tryz.ntmps25;obtain⟨w1,hw1⟩:∃ W,W=w.alloc (.cells #[.int .i64 2,.string ⟨#[]⟩,.nilFunc,.int .i64 0,.int .i64 0] 60):=⟨_,rfl⟩
 obtain⟨p1,hp1⟩:∃ p,p=w.heap.size:=⟨_,rfl⟩
 have hk1:Blk w1 p1 60 #[.int .i64 2,.string ⟨#[]⟩,.nilFunc,.int .i64 0,.int .i64 0]:=by rw[hw1,hp1];exact Blk.new _ _ _
 have hb1:Below w.heap.size w w1:=by rw[hw1];exact below_new _ _
 have HK1:=hid hk1;have HB:=hid hb1;clear hk1 hb1;go_upto_region 2 with fail
 rw[← hw1,← hp1];clear hw1 hp1;go_wp2_with (go_at_call 55;refine (is_any ⟨#[97,116]⟩ _).mono ?_;intro e x1 hx;obtain⟨rfl,hb⟩:=hx;refine Hid.out ?_);refine hid ?_;have HBx:=hid (HB.out.trans (hb.mono HB.out.size));have HK1x:=hid (HK1.out.below hb HK1.out.lt);clear HB HK1;obtain⟨w2,hw2⟩:∃ W,W=x1.alloc (.cells #[.int .i64 0,.string ⟨#[97,116]⟩,.nilFunc,.int .i64 0,.int .i64 0,.int .i64 4,.string ⟨#[]⟩,.func (.func 56) #[] #[],.int .i64 (-1048576),.int .i64 1048576,.int .i64 4,.string ⟨#[]⟩,.func (.func 57) #[] #[],.int .i64 (-1048576),.int .i64 1048576] 60):=⟨_,rfl⟩
 obtain⟨pA,hpA⟩:∃ p,p=x1.heap.size:=⟨_,rfl⟩
 have hb2:Below x1.heap.size x1 w2:=by rw[hw2];exact below_new _ _
 have hat:SlA w2 (.slice (some ⟨pA,0,none⟩) 3 3) atS:=by rw[hw2,hpA];exact SlA.lit x1 _ atS rfl (by decide)
 obtain⟨w3,hw3⟩:∃ W,W=w2.alloc (.cells #[.int .i64 4,.string ⟨#[]⟩,.func (.func 58) #[] #[],.int .i64 1,.int .i64 64,.int .i64 4,.string ⟨#[]⟩,.func (.func 59) #[] #[],.int .i64 (-1048576),.int .i64 1048576,.int .i64 4,.string ⟨#[]⟩,.func (.func 60) #[] #[],.int .i64 (-1048576),.int .i64 1048576] 60):=⟨_,rfl⟩
 obtain⟨pM,hpM⟩:∃ p,p=w2.heap.size:=⟨_,rfl⟩
 have hb3:Below w2.heap.size w2 w3:=by rw[hw3];exact below_new _ _
 have hmo:SlA w3 (.slice (some ⟨pM,0,none⟩) 3 3) motS:=by rw[hw3,hpM];exact SlA.lit w2 _ motS rfl (by decide)
 obtain⟨w4,hw4⟩:∃ W,W=w3.alloc (.cells #[.int .i64 4,.string ⟨#[]⟩,.func (.func 62) #[] #[],.int .i64 0,.int .i64 10000] 60):=⟨_,rfl⟩
 obtain⟨p5,hp5⟩:∃ p,p=w3.heap.size:=⟨_,rfl⟩
 have hb4:Below w3.heap.size w3 w4:=by rw[hw4];exact below_new _ _
 have hk5:Blk w4 p5 60 #[.int .i64 4,.string ⟨#[]⟩,.func (.func 62) #[] #[],.int .i64 0,.int .i64 10000]:=by rw[hw4,hp5];exact Blk.new _ _ _
 have HK5:=hid hk5;have HAT:=hid ((hat.ext hb3).ext hb4);have HMO:=hid (hmo.ext hb4);have hk1:=HK1x.out.below hb2 HK1x.out.lt;have hk1b:=hk1.below hb3 hk1.lt;have HK1:=hid (hk1b.below hb4 hk1b.lt);have hB2:=HBx.out.trans (hb2.mono HBx.out.size);have hB3:=hB2.trans (hb3.mono hB2.size);have HB:=hid (hB3.trans (hb4.mono hB3.size));clear HBx HK1x hb hb2 hb3 hb4 hk1 hk1b hk5 hat hmo hB2 hB3;go_upto_region 3 with fail
 rw[← hw2,← hpA];clear hw2 hpA;go_upto_region 4 with fail
 rw[← hw3,← hpM];clear hw3 hpM;go_upto_region 6 with fail
 rw[← hw4,← hp5];clear hw4 hp5;refine wp_region_J (by kernel_rfl) (fun listed act w'=>∃ s:FormJS,listed=#[s.b0,s.b1,s.b2,s.b3,s.b4,s.b5,s.b6,s.b7,s.b8,s.b9,s.b10,s.b11,s.b12,s.b13,s.b14,s.b15,s.b16,s.b17,s.b18,s.b19,s.b20,s.b21,s.b22,s.b23,s.b24,s.b25,s.b26,s.b27,s.b28,s.b29,s.b30,s.b31,s.b32,s.b33,s.b34,s.b35,s.b36,s.b37,s.b38,s.b39,s.b40,s.b41,s.b42,s.b43,s.b44,s.b45,s.b46,s.b47,s.b48,s.b49,s.b50,s.b51,s.b52,s.b53,s.b54]∧act=Act.mk #[s.v0,.pointer (some ⟨p1,0,none⟩),.slice (some ⟨pA,0,none⟩) 3 3,.slice (some ⟨pM,0,none⟩) 3 3,.func (.func 61) #[] #[],.pointer (some ⟨p5,0,none⟩),.agg #[.int .i64 2,.string ⟨#[]⟩,.nilFunc,.int .i64 0,.int .i64 0],.agg #[.int .i64 0,.string ⟨#[97,116]⟩,.nilFunc,.int .i64 0,.int .i64 0],.agg #[.int .i64 4,.string ⟨#[]⟩,.func (.func 56) #[] #[],.int .i64 (-1048576),.int .i64 1048576],.agg #[.int .i64 4,.string ⟨#[]⟩,.func (.func 57) #[] #[],.int .i64 (-1048576),.int .i64 1048576],.slice (some ⟨pA,0,none⟩) 3 3,.agg #[.int .i64 4,.string ⟨#[]⟩,.func (.func 58) #[] #[],.int .i64 1,.int .i64 64],.agg #[.int .i64 4,.string ⟨#[]⟩,.func (.func 59) #[] #[],.int .i64 (-1048576),.int .i64 1048576],.agg #[.int .i64 4,.string ⟨#[]⟩,.func (.func 60) #[] #[],.int .i64 (-1048576),.int .i64 1048576],.slice (some ⟨pM,0,none⟩) 3 3,.agg #[.int .i64 4,.string ⟨#[]⟩,.func (.func 62) #[] #[],.int .i64 0,.int .i64 10000],s.v16,s.v17,s.v18,s.v19,s.v20,s.v21,s.v22,s.v23,s.v24,s.v25,s.v26,s.v27,s.v28,s.v29,s.v30,s.v31,s.v32,s.v33,s.v34,s.v35,s.v36,s.v37,s.v38,s.v39,s.v40,s.v41,s.v42,s.v43,s.v44,s.v45,s.v46,s.v47,s.v48,s.v49,s.v50,s.v51,s.v52,s.v53,s.v54,s.v55,s.v56,s.v57,s.v58,s.v59,s.v60,s.v61,s.v62,s.v63,s.v64,s.v65,s.v66,s.v67,s.v68,s.v69] []∧FormJ w4 pA pM s w') ?_ ?_ ?_
 ·exact⟨⟨_,_,_,_,_,_,_,_,_,_,_,_,_,_,_,_,_,_,_,_,_,_,_,_,_,_,_,_,_,_,_,_,_,_,_,_,_,_,_,_,_,_,_,_,_,_,_,_,_,_,_,_,_,_,_,_,_,_,_,_,_,_,_,_,_,_,_,_,_,_,_,_,_,_,_,_,_,_,_,_,_,_,_,_,_,_,_,_,_,_,_,_,_,_,_,_,_,_,_,_,_,_,_,_,_,_,_,_,_,_⟩,rfl,rfl,⟨(fun h=>by cases h),(fun h=>by cases h),(fun h=>by cases h),(fun h=>by cases h),(fun h=>by cases h),(fun h=>by cases h),(fun h=>by cases h),(fun h=>by cases h),(fun h=>by cases h),(fun h=>by cases h),(fun h=>by cases h),(fun h=>by cases h),(fun h=>by cases h),(fun h=>by cases h),(fun h=>by cases h),(fun h=>by cases h),(fun h=>by cases h),(fun h=>by cases h),(fun h=>by cases h),(fun h=>by cases h),(fun h=>by cases h),(fun h=>by cases h),(fun h=>by cases h),(Below.refl _ w4).drew,(fun h=>by cases h),(fun h=>by cases h),(fun h=>by cases h),(fun h=>by cases h),(fun h=>by cases h),(fun h=>by cases h),(fun h=>by cases h),(fun h=>by cases h),(fun h=>by cases h),(fun h=>by cases h),(fun h=>by cases h),(fun h=>by cases h),(fun h=>by cases h),(fun h=>by cases h),(fun h=>by cases h),(fun h=>by cases h),(fun h=>by cases h),(fun h=>by cases h),(fun h=>by cases h),(fun h=>by cases h),(fun h=>by cases h),(fun h=>by cases h),(fun h=>by cases h),(fun h=>by cases h),(fun h=>by cases h),(fun h=>by cases h),(fun h=>by cases h),(fun h=>by cases h),(fun h=>by cases h),(fun h=>by cases h),(fun h=>by cases h),(fun h=>by cases h)⟩⟩
 ·rintro i listed act w' hi ⟨⟨b0,b1,b2,b3,b4,b5,b6,b7,b8,b9,b10,b11,b12,b13,b14,b15,b16,b17,b18,b19,b20,b21,b22,b23,b24,b25,b26,b27,b28,b29,b30,b31,b32,b33,b34,b35,b36,b37,b38,b39,b40,b41,b42,b43,b44,b45,b46,b47,b48,b49,b50,b51,b52,b53,b54,v16,v17,v18,v19,v20,v21,v22,v23,v24,v25,v26,v27,v28,v29,v30,v31,v32,v33,v34,v35,v36,v37,v38,v39,v40,v41,v42,v43,v44,v45,v46,v47,v48,v49,v50,v51,v52,v53,v54,v55,v56,v57,v58,v59,v60,v61,v62,v63,v64,v65,v66,v67,v68,v69,v0⟩,rfl,rfl,H⟩;dsimp only at hi ⊢;have hi16:i < 55:=by
   obtain⟨-,o,ho,-⟩:=mem_ready.1 hi;exact (Array.getElem?_eq_some_iff.1 ho).1
  obtain rfl | rfl | rfl | rfl | rfl | rfl | rfl | rfl | rfl | rfl | rfl | rfl | rfl | rfl | rfl | rfl | rfl | rfl | rfl | rfl | rfl | rfl | rfl | rfl | rfl | rfl | rfl | rfl | rfl | rfl | rfl | rfl | rfl | rfl | rfl | rfl | rfl | rfl | rfl | rfl | rfl | rfl | rfl | rfl | rfl | rfl | rfl | rfl | rfl | rfl | rfl | rfl | rfl | rfl | rfl:i=0∨i=1∨i=2∨i=3∨i=4∨i=5∨i=6∨i=7∨i=8∨i=9∨i=10∨i=11∨i=12∨i=13∨i=14∨i=15∨i=16∨i=17∨i=18∨i=19∨i=20∨i=21∨i=22∨i=23∨i=24∨i=25∨i=26∨i=27∨i=28∨i=29∨i=30∨i=31∨i=32∨i=33∨i=34∨i=35∨i=36∨i=37∨i=38∨i=39∨i=40∨i=41∨i=42∨i=43∨i=44∨i=45∨i=46∨i=47∨i=48∨i=49∨i=50∨i=51∨i=52∨i=53∨i=54:=by clear hi H;omega
  all_goals clear hi16
  ·refine wpOp_hidden rfl fun K hK=>?_;go_wp2;refine OnlyN.mk (hK.out _ _ ⟨⟨true,_,_,_,_,_,_,_,_,_,_,_,_,_,_,_,_,_,_,_,_,_,_,_,_,_,_,_,_,_,_,_,_,_,_,_,_,_,_,_,_,_,_,_,_,_,_,_,_,_,_,_,_,_,_,.agg #[.int .i64 1,.string ⟨#[]⟩,.nilFunc,.int .i64 0,.int .i64 0],_,_,_,_,_,_,_,_,_,_,_,_,_,_,_,_,_,_,_,_,_,_,_,_,_,_,_,_,_,_,_,_,_,_,_,_,_,_,_,_,_,_,_,_,_,_,_,_,_,_,_,_,_,_⟩,rfl,rfl,{ H with h0:=fun _=>rfl }⟩)
  ·have e0:v16=.agg #[.int .i64 1,.string ⟨#[]⟩,.nilFunc,.int .i64 0,.int .i64 0]:=H.h0 (ready_dep hi 0 (by kernel_rfl));subst e0;have HL:=hid (SlA.lit w' #[.int .i64 1,.string ⟨#[]⟩,.nilFunc,.int .i64 0,.int .i64 0] ([⟨1,[],0,0,0⟩]) rfl (by decide));have HB9:=hid (below_new w' (.cells #[.int .i64 1,.string ⟨#[]⟩,.nilFunc,.int .i64 0,.int .i64 0] 60));refine wpOp_hidden rfl fun K hK=>?_;go_wp2;refine OnlyN.mk (hK.out _ _ ⟨⟨_,true,_,_,_,_,_,_,_,_,_,_,_,_,_,_,_,_,_,_,_,_,_,_,_,_,_,_,_,_,_,_,_,_,_,_,_,_,_,_,_,_,_,_,_,_,_,_,_,_,_,_,_,_,_,_,.slice (some ⟨w'.heap.size,0,none⟩) 1 1,_,_,_,_,_,_,_,_,_,_,_,_,_,_,_,_,_,_,_,_,_,_,_,_,_,_,_,_,_,_,_,_,_,_,_,_,_,_,_,_,_,_,_,_,_,_,_,_,_,_,_,_,_⟩,rfl,rfl,{ H.world HB9.out with s1:=fun _=>HL.out }⟩)
  ·have q9:=H.s1 (ready_dep hi 1 (by kernel_rfl));obtain⟨A9,c9,e9⟩:∃ A c,v17=.slice A 1 c:=q9.form;subst e9;have HQ:=hid q9;clear q9;refine wpOp_hidden rfl fun K hK=>?_;go_wp2;refine OnlyN.mk (hK.out _ _ ⟨⟨_,_,true,_,_,_,_,_,_,_,_,_,_,_,_,_,_,_,_,_,_,_,_,_,_,_,_,_,_,_,_,_,_,_,_,_,_,_,_,_,_,_,_,_,_,_,_,_,_,_,_,_,_,_,_,_,_,.agg #[.string ⟨#[114,117,108,101]⟩,.int .i64 1,.slice A9 1 c9],_,_,_,_,_,_,_,_,_,_,_,_,_,_,_,_,_,_,_,_,_,_,_,_,_,_,_,_,_,_,_,_,_,_,_,_,_,_,_,_,_,_,_,_,_,_,_,_,_,_,_,_⟩,rfl,rfl,{ H with s2:=fun _=>⟨_,rfl,HQ.out⟩ }⟩)
  ·have kk:=HK1.out.below H.below HK1.out.lt;have cc0:=kk.cell_ 0 _ rfl;have cc1:=kk.cell_ 1 _ rfl;have cc2:=kk.cell_ 2 _ rfl;have cc3:=kk.cell_ 3 _ rfl;have cc4:=kk.cell_ 4 _ rfl;clear kk;refine wpOp_hidden rfl fun K hK=>?_;go_wp2;refine OnlyN.mk (hK.out _ _ ⟨⟨_,_,_,true,_,_,_,_,_,_,_,_,_,_,_,_,_,_,_,_,_,_,_,_,_,_,_,_,_,_,_,_,_,_,_,_,_,_,_,_,_,_,_,_,_,_,_,_,_,_,_,_,_,_,_,_,_,_,.agg #[.int .i64 2,.string ⟨#[]⟩,.nilFunc,.int .i64 0,.int .i64 0],_,_,_,_,_,_,_,_,_,_,_,_,_,_,_,_,_,_,_,_,_,_,_,_,_,_,_,_,_,_,_,_,_,_,_,_,_,_,_,_,_,_,_,_,_,_,_,_,_,_,_⟩,rfl,rfl,{ H with h3:=fun _=>rfl }⟩)
  ·refine wpOp_hidden rfl fun K hK=>?_;go_wp2;refine OnlyN.mk (hK.out _ _ ⟨⟨_,_,_,_,true,_,_,_,_,_,_,_,_,_,_,_,_,_,_,_,_,_,_,_,_,_,_,_,_,_,_,_,_,_,_,_,_,_,_,_,_,_,_,_,_,_,_,_,_,_,_,_,_,_,_,_,_,_,_,.agg #[.int .i64 3,.string ⟨#[]⟩,.nilFunc,.int .i64 0,.int .i64 0],_,_,_,_,_,_,_,_,_,_,_,_,_,_,_,_,_,_,_,_,_,_,_,_,_,_,_,_,_,_,_,_,_,_,_,_,_,_,_,_,_,_,_,_,_,_,_,_,_,_⟩,rfl,rfl,{ H with h4:=fun _=>rfl }⟩)
  ·have e3:v19=.agg #[.int .i64 2,.string ⟨#[]⟩,.nilFunc,.int .i64 0,.int .i64 0]:=H.h3 (ready_dep hi 3 (by kernel_rfl));subst e3;have e4:v20=.agg #[.int .i64 3,.string ⟨#[]⟩,.nilFunc,.int .i64 0,.int .i64 0]:=H.h4 (ready_dep hi 4 (by kernel_rfl));subst e4;have HL:=hid (SlA.lit w' #[.int .i64 2,.string ⟨#[]⟩,.nilFunc,.int .i64 0,.int .i64 0,.int .i64 3,.string ⟨#[]⟩,.nilFunc,.int .i64 0,.int .i64 0] ([nameS,⟨3,[],0,0,0⟩]) rfl (by decide));have HB9:=hid (below_new w' (.cells #[.int .i64 2,.string ⟨#[]⟩,.nilFunc,.int .i64 0,.int .i64 0,.int .i64 3,.string ⟨#[]⟩,.nilFunc,.int .i64 0,.int .i64 0] 60));refine wpOp_hidden rfl fun K hK=>?_;go_wp2;refine OnlyN.mk (hK.out _ _ ⟨⟨_,_,_,_,_,true,_,_,_,_,_,_,_,_,_,_,_,_,_,_,_,_,_,_,_,_,_,_,_,_,_,_,_,_,_,_,_,_,_,_,_,_,_,_,_,_,_,_,_,_,_,_,_,_,_,_,_,_,_,_,.slice (some ⟨w'.heap.size,0,none⟩) 2 2,_,_,_,_,_,_,_,_,_,_,_,_,_,_,_,_,_,_,_,_,_,_,_,_,_,_,_,_,_,_,_,_,_,_,_,_,_,_,_,_,_,_,_,_,_,_,_,_,_⟩,rfl,rfl,{ H.world HB9.out with s5:=fun _=>HL.out }⟩)
  ·have q9:=H.s5 (ready_dep hi 5 (by kernel_rfl));obtain⟨A9,c9,e9⟩:∃ A c,v21=.slice A 2 c:=q9.form;subst e9;have HQ:=hid q9;clear q9;refine wpOp_hidden rfl fun K hK=>?_;go_wp2;refine OnlyN.mk (hK.out _ _ ⟨⟨_,_,_,_,_,_,true,_,_,_,_,_,_,_,_,_,_,_,_,_,_,_,_,_,_,_,_,_,_,_,_,_,_,_,_,_,_,_,_,_,_,_,_,_,_,_,_,_,_,_,_,_,_,_,_,_,_,_,_,_,_,.agg #[.string ⟨#[99,101,108,108,115]⟩,.int .i64 2,.slice A9 2 c9],_,_,_,_,_,_,_,_,_,_,_,_,_,_,_,_,_,_,_,_,_,_,_,_,_,_,_,_,_,_,_,_,_,_,_,_,_,_,_,_,_,_,_,_,_,_,_,_⟩,rfl,rfl,{ H with s6:=fun _=>⟨_,rfl,HQ.out⟩ }⟩)
  ·refine wpOp_hidden rfl fun K hK=>?_;go_wp2;refine OnlyN.mk (hK.out _ _ ⟨⟨_,_,_,_,_,_,_,true,_,_,_,_,_,_,_,_,_,_,_,_,_,_,_,_,_,_,_,_,_,_,_,_,_,_,_,_,_,_,_,_,_,_,_,_,_,_,_,_,_,_,_,_,_,_,_,_,_,_,_,_,_,_,.func (.func 61) #[] #[],_,_,_,_,_,_,_,_,_,_,_,_,_,_,_,_,_,_,_,_,_,_,_,_,_,_,_,_,_,_,_,_,_,_,_,_,_,_,_,_,_,_,_,_,_,_,_⟩,rfl,rfl,{ H with h7:=fun _=>rfl }⟩)
  ·have kk:=HK1.out.below H.below HK1.out.lt;have cc0:=kk.cell_ 0 _ rfl;have cc1:=kk.cell_ 1 _ rfl;have cc2:=kk.cell_ 2 _ rfl;have cc3:=kk.cell_ 3 _ rfl;have cc4:=kk.cell_ 4 _ rfl;clear kk;refine wpOp_hidden rfl fun K hK=>?_;go_wp2;refine OnlyN.mk (hK.out _ _ ⟨⟨_,_,_,_,_,_,_,_,true,_,_,_,_,_,_,_,_,_,_,_,_,_,_,_,_,_,_,_,_,_,_,_,_,_,_,_,_,_,_,_,_,_,_,_,_,_,_,_,_,_,_,_,_,_,_,_,_,_,_,_,_,_,_,.agg #[.int .i64 2,.string ⟨#[]⟩,.nilFunc,.int .i64 0,.int .i64 0],_,_,_,_,_,_,_,_,_,_,_,_,_,_,_,_,_,_,_,_,_,_,_,_,_,_,_,_,_,_,_,_,_,_,_,_,_,_,_,_,_,_,_,_,_,_⟩,rfl,rfl,{ H with h8:=fun _=>rfl }⟩)
  ·have e8:v24=.agg #[.int .i64 2,.string ⟨#[]⟩,.nilFunc,.int .i64 0,.int .i64 0]:=H.h8 (ready_dep hi 8 (by kernel_rfl));subst e8;have HL:=hid (SlA.lit w' #[.int .i64 2,.string ⟨#[]⟩,.nilFunc,.int .i64 0,.int .i64 0] ([nameS]) rfl (by decide));have HB9:=hid (below_new w' (.cells #[.int .i64 2,.string ⟨#[]⟩,.nilFunc,.int .i64 0,.int .i64 0] 60));refine wpOp_hidden rfl fun K hK=>?_;go_wp2;refine OnlyN.mk (hK.out _ _ ⟨⟨_,_,_,_,_,_,_,_,_,true,_,_,_,_,_,_,_,_,_,_,_,_,_,_,_,_,_,_,_,_,_,_,_,_,_,_,_,_,_,_,_,_,_,_,_,_,_,_,_,_,_,_,_,_,_,_,_,_,_,_,_,_,_,_,.slice (some ⟨w'.heap.size,0,none⟩) 1 1,_,_,_,_,_,_,_,_,_,_,_,_,_,_,_,_,_,_,_,_,_,_,_,_,_,_,_,_,_,_,_,_,_,_,_,_,_,_,_,_,_,_,_,_,_⟩,rfl,rfl,{ H.world HB9.out with s9:=fun _=>HL.out }⟩)
  ·refine wpOp_hidden rfl fun K hK=>?_;go_wp2;refine OnlyN.mk (hK.out _ _ ⟨⟨_,_,_,_,_,_,_,_,_,_,true,_,_,_,_,_,_,_,_,_,_,_,_,_,_,_,_,_,_,_,_,_,_,_,_,_,_,_,_,_,_,_,_,_,_,_,_,_,_,_,_,_,_,_,_,_,_,_,_,_,_,_,_,_,_,.slice (some ⟨pA,0,none⟩) 3 3,_,_,_,_,_,_,_,_,_,_,_,_,_,_,_,_,_,_,_,_,_,_,_,_,_,_,_,_,_,_,_,_,_,_,_,_,_,_,_,_,_,_,_,_⟩,rfl,rfl,{ H with h10:=fun _=>rfl }⟩)
  ·have HCALL:=hid (is_any ⟨#[116,117,114,110]⟩ w');refine wpOp_hidden rfl fun K hK=>?_;go_wp2_with (go_at_call 55;refine HCALL.out.mono ?_;intro e w9 hx;obtain⟨rfl,hb9⟩:=hx;refine Hid.out ?_);refine hid ?_;have HB9:=hid hb9;clear hb9 HCALL;go_wp2;refine OnlyN.mk (hK.out _ _ ⟨⟨_,_,_,_,_,_,_,_,_,_,_,true,_,_,_,_,_,_,_,_,_,_,_,_,_,_,_,_,_,_,_,_,_,_,_,_,_,_,_,_,_,_,_,_,_,_,_,_,_,_,_,_,_,_,_,_,_,_,_,_,_,_,_,_,_,_,.agg #[.int .i64 0,.string ⟨#[116,117,114,110]⟩,.nilFunc,.int .i64 0,.int .i64 0],_,_,_,_,_,_,_,_,_,_,_,_,_,_,_,_,_,_,_,_,_,_,_,_,_,_,_,_,_,_,_,_,_,_,_,_,_,_,_,_,_,_,_⟩,rfl,rfl,{ H.world HB9.out with h11:=fun _=>rfl }⟩)
  ·refine wpOp_hidden rfl fun K hK=>?_;go_wp2;refine OnlyN.mk (hK.out _ _ ⟨⟨_,_,_,_,_,_,_,_,_,_,_,_,true,_,_,_,_,_,_,_,_,_,_,_,_,_,_,_,_,_,_,_,_,_,_,_,_,_,_,_,_,_,_,_,_,_,_,_,_,_,_,_,_,_,_,_,_,_,_,_,_,_,_,_,_,_,_,.agg #[.int .i64 4,.string ⟨#[]⟩,.func (.func 62) #[] #[],.int .i64 0,.int .i64 7],_,_,_,_,_,_,_,_,_,_,_,_,_,_,_,_,_,_,_,_,_,_,_,_,_,_,_,_,_,_,_,_,_,_,_,_,_,_,_,_,_,_⟩,rfl,rfl,{ H with h12:=fun _=>rfl }⟩)
  ·have e11:v27=.agg #[.int .i64 0,.string ⟨#[116,117,114,110]⟩,.nilFunc,.int .i64 0,.int .i64 0]:=H.h11 (ready_dep hi 11 (by kernel_rfl));subst e11;have e12:v28=.agg #[.int .i64 4,.string ⟨#[]⟩,.func (.func 62) #[] #[],.int .i64 0,.int .i64 7]:=H.h12 (ready_dep hi 12 (by kernel_rfl));subst e12;have HL:=hid (SlA.lit w' #[.int .i64 0,.string ⟨#[116,117,114,110]⟩,.nilFunc,.int .i64 0,.int .i64 0,.int .i64 4,.string ⟨#[]⟩,.func (.func 62) #[] #[],.int .i64 0,.int .i64 7] ([turnS,nmbS 3 0 7]) rfl (by decide));have HB9:=hid (below_new w' (.cells #[.int .i64 0,.string ⟨#[116,117,114,110]⟩,.nilFunc,.int .i64 0,.int .i64 0,.int .i64 4,.string ⟨#[]⟩,.func (.func 62) #[] #[],.int .i64 0,.int .i64 7] 60));refine wpOp_hidden rfl fun K hK=>?_;go_wp2;refine OnlyN.mk (hK.out _ _ ⟨⟨_,_,_,_,_,_,_,_,_,_,_,_,_,true,_,_,_,_,_,_,_,_,_,_,_,_,_,_,_,_,_,_,_,_,_,_,_,_,_,_,_,_,_,_,_,_,_,_,_,_,_,_,_,_,_,_,_,_,_,_,_,_,_,_,_,_,_,_,.slice (some ⟨w'.heap.size,0,none⟩) 2 2,_,_,_,_,_,_,_,_,_,_,_,_,_,_,_,_,_,_,_,_,_,_,_,_,_,_,_,_,_,_,_,_,_,_,_,_,_,_,_,_,_⟩,rfl,rfl,{ H.world HB9.out with s13:=fun _=>HL.out }⟩)
  ·have q9:=H.s9 (ready_dep hi 9 (by kernel_rfl));obtain⟨A9,c9,e9⟩:∃ A c,v25=.slice A 1 c:=q9.form;subst e9;have HQ9:=hid q9;clear q9;have e10:v26=.slice (some ⟨pA,0,none⟩) 3 3:=H.h10 (ready_dep hi 10 (by kernel_rfl));subst e10;have q13:=H.s13 (ready_dep hi 13 (by kernel_rfl));obtain⟨A13,c13,e13⟩:∃ A c,v29=.slice A 2 c:=q13.form;subst e13;have HQ13:=hid q13;clear q13;have HL:=hid (SsA.lit3 HQ9.out (HAT.out.ext H.below) HQ13.out);have HB9:=hid (below_new w' (.cells #[.slice A9 1 c9,.slice (some ⟨pA,0,none⟩) 3 3,.slice A13 2 c13] 50));refine wpOp_hidden rfl fun K hK=>?_;go_wp2;refine OnlyN.mk (hK.out _ _ ⟨⟨_,_,_,_,_,_,_,_,_,_,_,_,_,_,true,_,_,_,_,_,_,_,_,_,_,_,_,_,_,_,_,_,_,_,_,_,_,_,_,_,_,_,_,_,_,_,_,_,_,_,_,_,_,_,_,_,_,_,_,_,_,_,_,_,_,_,_,_,_,.slice (some ⟨w'.heap.size,0,none⟩) 3 3,_,_,_,_,_,_,_,_,_,_,_,_,_,_,_,_,_,_,_,_,_,_,_,_,_,_,_,_,_,_,_,_,_,_,_,_,_,_,_,_⟩,rfl,rfl,{ H.world HB9.out with s14:=fun _=>HL.out }⟩)
  ·have e7:v23=.func (.func 61) #[] #[]:=H.h7 (ready_dep hi 7 (by kernel_rfl));subst e7;have HCALL:=hid (list_any v30 [[nameS],atS,[turnS,nmbS 3 0 7]] w' (H.s14 (ready_dep hi 14 (by kernel_rfl))) (by decide));refine wpOp_hidden rfl fun K hK=>?_;go_wp2_with (go_at_call 61;refine HCALL.out.mono ?_;intro e w9 hx;obtain⟨v9,rfl,hs9,hb9⟩:=hx;refine Hid.out ?_);refine hid ?_;have HB9:=hid hb9;have HS9:Hid (SlA w9 v9 ([nameS] ++ atS ++ [turnS,nmbS 3 0 7])):=hid hs9;clear hb9 hs9 HCALL;go_wp2;refine OnlyN.mk (hK.out _ _ ⟨⟨_,_,_,_,_,_,_,_,_,_,_,_,_,_,_,true,_,_,_,_,_,_,_,_,_,_,_,_,_,_,_,_,_,_,_,_,_,_,_,_,_,_,_,_,_,_,_,_,_,_,_,_,_,_,_,_,_,_,_,_,_,_,_,_,_,_,_,_,_,_,v9,_,_,_,_,_,_,_,_,_,_,_,_,_,_,_,_,_,_,_,_,_,_,_,_,_,_,_,_,_,_,_,_,_,_,_,_,_,_,_⟩,rfl,rfl,{ H.world HB9.out with s15:=fun _=>HS9.out }⟩)
  ·have q9:=H.s15 (ready_dep hi 15 (by kernel_rfl));obtain⟨A9,c9,e9⟩:∃ A c,v31=.slice A 6 c:=q9.form;subst e9;have HQ:=hid q9;clear q9;refine wpOp_hidden rfl fun K hK=>?_;go_wp2;refine OnlyN.mk (hK.out _ _ ⟨⟨_,_,_,_,_,_,_,_,_,_,_,_,_,_,_,_,true,_,_,_,_,_,_,_,_,_,_,_,_,_,_,_,_,_,_,_,_,_,_,_,_,_,_,_,_,_,_,_,_,_,_,_,_,_,_,_,_,_,_,_,_,_,_,_,_,_,_,_,_,_,_,.agg #[.string ⟨#[112,117,116]⟩,.int .i64 3,.slice A9 6 c9],_,_,_,_,_,_,_,_,_,_,_,_,_,_,_,_,_,_,_,_,_,_,_,_,_,_,_,_,_,_,_,_,_,_,_,_,_,_⟩,rfl,rfl,{ H with s16:=fun _=>⟨_,rfl,HQ.out⟩ }⟩)
  ·refine wpOp_hidden rfl fun K hK=>?_;go_wp2;refine OnlyN.mk (hK.out _ _ ⟨⟨_,_,_,_,_,_,_,_,_,_,_,_,_,_,_,_,_,true,_,_,_,_,_,_,_,_,_,_,_,_,_,_,_,_,_,_,_,_,_,_,_,_,_,_,_,_,_,_,_,_,_,_,_,_,_,_,_,_,_,_,_,_,_,_,_,_,_,_,_,_,_,_,.func (.func 61) #[] #[],_,_,_,_,_,_,_,_,_,_,_,_,_,_,_,_,_,_,_,_,_,_,_,_,_,_,_,_,_,_,_,_,_,_,_,_,_⟩,rfl,rfl,{ H with h17:=fun _=>rfl }⟩)
  ·have kk:=HK1.out.below H.below HK1.out.lt;have cc0:=kk.cell_ 0 _ rfl;have cc1:=kk.cell_ 1 _ rfl;have cc2:=kk.cell_ 2 _ rfl;have cc3:=kk.cell_ 3 _ rfl;have cc4:=kk.cell_ 4 _ rfl;clear kk;refine wpOp_hidden rfl fun K hK=>?_;go_wp2;refine OnlyN.mk (hK.out _ _ ⟨⟨_,_,_,_,_,_,_,_,_,_,_,_,_,_,_,_,_,_,true,_,_,_,_,_,_,_,_,_,_,_,_,_,_,_,_,_,_,_,_,_,_,_,_,_,_,_,_,_,_,_,_,_,_,_,_,_,_,_,_,_,_,_,_,_,_,_,_,_,_,_,_,_,_,.agg #[.int .i64 2,.string ⟨#[]⟩,.nilFunc,.int .i64 0,.int .i64 0],_,_,_,_,_,_,_,_,_,_,_,_,_,_,_,_,_,_,_,_,_,_,_,_,_,_,_,_,_,_,_,_,_,_,_,_⟩,rfl,rfl,{ H with h18:=fun _=>rfl }⟩)
  ·have e18:v34=.agg #[.int .i64 2,.string ⟨#[]⟩,.nilFunc,.int .i64 0,.int .i64 0]:=H.h18 (ready_dep hi 18 (by kernel_rfl));subst e18;have HL:=hid (SlA.lit w' #[.int .i64 2,.string ⟨#[]⟩,.nilFunc,.int .i64 0,.int .i64 0] ([nameS]) rfl (by decide));have HB9:=hid (below_new w' (.cells #[.int .i64 2,.string ⟨#[]⟩,.nilFunc,.int .i64 0,.int .i64 0] 60));refine wpOp_hidden rfl fun K hK=>?_;go_wp2;refine OnlyN.mk (hK.out _ _ ⟨⟨_,_,_,_,_,_,_,_,_,_,_,_,_,_,_,_,_,_,_,true,_,_,_,_,_,_,_,_,_,_,_,_,_,_,_,_,_,_,_,_,_,_,_,_,_,_,_,_,_,_,_,_,_,_,_,_,_,_,_,_,_,_,_,_,_,_,_,_,_,_,_,_,_,_,.slice (some ⟨w'.heap.size,0,none⟩) 1 1,_,_,_,_,_,_,_,_,_,_,_,_,_,_,_,_,_,_,_,_,_,_,_,_,_,_,_,_,_,_,_,_,_,_,_⟩,rfl,rfl,{ H.world HB9.out with s19:=fun _=>HL.out }⟩)
  ·refine wpOp_hidden rfl fun K hK=>?_;go_wp2;refine OnlyN.mk (hK.out _ _ ⟨⟨_,_,_,_,_,_,_,_,_,_,_,_,_,_,_,_,_,_,_,_,true,_,_,_,_,_,_,_,_,_,_,_,_,_,_,_,_,_,_,_,_,_,_,_,_,_,_,_,_,_,_,_,_,_,_,_,_,_,_,_,_,_,_,_,_,_,_,_,_,_,_,_,_,_,_,.slice (some ⟨pM,0,none⟩) 3 3,_,_,_,_,_,_,_,_,_,_,_,_,_,_,_,_,_,_,_,_,_,_,_,_,_,_,_,_,_,_,_,_,_,_⟩,rfl,rfl,{ H with h20:=fun _=>rfl }⟩)
  ·have q19:=H.s19 (ready_dep hi 19 (by kernel_rfl));obtain⟨A19,c19,e19⟩:∃ A c,v35=.slice A 1 c:=q19.form;subst e19;have HQ19:=hid q19;clear q19;have e20:v36=.slice (some ⟨pM,0,none⟩) 3 3:=H.h20 (ready_dep hi 20 (by kernel_rfl));subst e20;have HL:=hid (SsA.lit2 HQ19.out (HMO.out.ext H.below));have HB9:=hid (below_new w' (.cells #[.slice A19 1 c19,.slice (some ⟨pM,0,none⟩) 3 3] 50));refine wpOp_hidden rfl fun K hK=>?_;go_wp2;refine OnlyN.mk (hK.out _ _ ⟨⟨_,_,_,_,_,_,_,_,_,_,_,_,_,_,_,_,_,_,_,_,_,true,_,_,_,_,_,_,_,_,_,_,_,_,_,_,_,_,_,_,_,_,_,_,_,_,_,_,_,_,_,_,_,_,_,_,_,_,_,_,_,_,_,_,_,_,_,_,_,_,_,_,_,_,_,_,.slice (some ⟨w'.heap.size,0,none⟩) 2 2,_,_,_,_,_,_,_,_,_,_,_,_,_,_,_,_,_,_,_,_,_,_,_,_,_,_,_,_,_,_,_,_,_⟩,rfl,rfl,{ H.world HB9.out with s21:=fun _=>HL.out }⟩)
  ·have e17:v33=.func (.func 61) #[] #[]:=H.h17 (ready_dep hi 17 (by kernel_rfl));subst e17;have HCALL:=hid (list_any v37 [[nameS],motS] w' (H.s21 (ready_dep hi 21 (by kernel_rfl))) (by decide));refine wpOp_hidden rfl fun K hK=>?_;go_wp2_with (go_at_call 61;refine HCALL.out.mono ?_;intro e w9 hx;obtain⟨v9,rfl,hs9,hb9⟩:=hx;refine Hid.out ?_);refine hid ?_;have HB9:=hid hb9;have HS9:Hid (SlA w9 v9 ([nameS] ++ motS)):=hid hs9;clear hb9 hs9 HCALL;go_wp2;refine OnlyN.mk (hK.out _ _ ⟨⟨_,_,_,_,_,_,_,_,_,_,_,_,_,_,_,_,_,_,_,_,_,_,true,_,_,_,_,_,_,_,_,_,_,_,_,_,_,_,_,_,_,_,_,_,_,_,_,_,_,_,_,_,_,_,_,_,_,_,_,_,_,_,_,_,_,_,_,_,_,_,_,_,_,_,_,_,_,v9,_,_,_,_,_,_,_,_,_,_,_,_,_,_,_,_,_,_,_,_,_,_,_,_,_,_,_,_,_,_,_,_⟩,rfl,rfl,{ H.world HB9.out with s22:=fun _=>HS9.out }⟩)
  ·have q9:=H.s22 (ready_dep hi 22 (by kernel_rfl));obtain⟨A9,c9,e9⟩:∃ A c,v38=.slice A 4 c:=q9.form;subst e9;have HQ:=hid q9;clear q9;refine wpOp_hidden rfl fun K hK=>?_;go_wp2;refine OnlyN.mk (hK.out _ _ ⟨⟨_,_,_,_,_,_,_,_,_,_,_,_,_,_,_,_,_,_,_,_,_,_,_,true,_,_,_,_,_,_,_,_,_,_,_,_,_,_,_,_,_,_,_,_,_,_,_,_,_,_,_,_,_,_,_,_,_,_,_,_,_,_,_,_,_,_,_,_,_,_,_,_,_,_,_,_,_,_,.agg #[.string ⟨#[115,104,105,112]⟩,.int .i64 4,.slice A9 4 c9],_,_,_,_,_,_,_,_,_,_,_,_,_,_,_,_,_,_,_,_,_,_,_,_,_,_,_,_,_,_,_⟩,rfl,rfl,{ H with s23:=fun _=>⟨_,rfl,HQ.out⟩ }⟩)
  ·refine wpOp_hidden rfl fun K hK=>?_;go_wp2;refine OnlyN.mk (hK.out _ _ ⟨⟨_,_,_,_,_,_,_,_,_,_,_,_,_,_,_,_,_,_,_,_,_,_,_,_,true,_,_,_,_,_,_,_,_,_,_,_,_,_,_,_,_,_,_,_,_,_,_,_,_,_,_,_,_,_,_,_,_,_,_,_,_,_,_,_,_,_,_,_,_,_,_,_,_,_,_,_,_,_,_,.func (.func 61) #[] #[],_,_,_,_,_,_,_,_,_,_,_,_,_,_,_,_,_,_,_,_,_,_,_,_,_,_,_,_,_,_⟩,rfl,rfl,{ H with h24:=fun _=>rfl }⟩)
  ·have kk:=HK1.out.below H.below HK1.out.lt;have cc0:=kk.cell_ 0 _ rfl;have cc1:=kk.cell_ 1 _ rfl;have cc2:=kk.cell_ 2 _ rfl;have cc3:=kk.cell_ 3 _ rfl;have cc4:=kk.cell_ 4 _ rfl;clear kk;refine wpOp_hidden rfl fun K hK=>?_;go_wp2;refine OnlyN.mk (hK.out _ _ ⟨⟨_,_,_,_,_,_,_,_,_,_,_,_,_,_,_,_,_,_,_,_,_,_,_,_,_,true,_,_,_,_,_,_,_,_,_,_,_,_,_,_,_,_,_,_,_,_,_,_,_,_,_,_,_,_,_,_,_,_,_,_,_,_,_,_,_,_,_,_,_,_,_,_,_,_,_,_,_,_,_,_,.agg #[.int .i64 2,.string ⟨#[]⟩,.nilFunc,.int .i64 0,.int .i64 0],_,_,_,_,_,_,_,_,_,_,_,_,_,_,_,_,_,_,_,_,_,_,_,_,_,_,_,_,_⟩,rfl,rfl,{ H with h25:=fun _=>rfl }⟩)
  ·have HCALL:=hid (is_any ⟨#[112,104,97,115,101]⟩ w');refine wpOp_hidden rfl fun K hK=>?_;go_wp2_with (go_at_call 55;refine HCALL.out.mono ?_;intro e w9 hx;obtain⟨rfl,hb9⟩:=hx;refine Hid.out ?_);refine hid ?_;have HB9:=hid hb9;clear hb9 HCALL;go_wp2;refine OnlyN.mk (hK.out _ _ ⟨⟨_,_,_,_,_,_,_,_,_,_,_,_,_,_,_,_,_,_,_,_,_,_,_,_,_,_,true,_,_,_,_,_,_,_,_,_,_,_,_,_,_,_,_,_,_,_,_,_,_,_,_,_,_,_,_,_,_,_,_,_,_,_,_,_,_,_,_,_,_,_,_,_,_,_,_,_,_,_,_,_,_,.agg #[.int .i64 0,.string ⟨#[112,104,97,115,101]⟩,.nilFunc,.int .i64 0,.int .i64 0],_,_,_,_,_,_,_,_,_,_,_,_,_,_,_,_,_,_,_,_,_,_,_,_,_,_,_,_⟩,rfl,rfl,{ H.world HB9.out with h26:=fun _=>rfl }⟩)
  ·have kk:=HK5.out.below H.below HK5.out.lt;have cc0:=kk.cell_ 0 _ rfl;have cc1:=kk.cell_ 1 _ rfl;have cc2:=kk.cell_ 2 _ rfl;have cc3:=kk.cell_ 3 _ rfl;have cc4:=kk.cell_ 4 _ rfl;clear kk;refine wpOp_hidden rfl fun K hK=>?_;go_wp2;refine OnlyN.mk (hK.out _ _ ⟨⟨_,_,_,_,_,_,_,_,_,_,_,_,_,_,_,_,_,_,_,_,_,_,_,_,_,_,_,true,_,_,_,_,_,_,_,_,_,_,_,_,_,_,_,_,_,_,_,_,_,_,_,_,_,_,_,_,_,_,_,_,_,_,_,_,_,_,_,_,_,_,_,_,_,_,_,_,_,_,_,_,_,_,.agg #[.int .i64 4,.string ⟨#[]⟩,.func (.func 62) #[] #[],.int .i64 0,.int .i64 10000],_,_,_,_,_,_,_,_,_,_,_,_,_,_,_,_,_,_,_,_,_,_,_,_,_,_,_⟩,rfl,rfl,{ H with h27:=fun _=>rfl }⟩)
  ·have e25:v41=.agg #[.int .i64 2,.string ⟨#[]⟩,.nilFunc,.int .i64 0,.int .i64 0]:=H.h25 (ready_dep hi 25 (by kernel_rfl));subst e25;have e26:v42=.agg #[.int .i64 0,.string ⟨#[112,104,97,115,101]⟩,.nilFunc,.int .i64 0,.int .i64 0]:=H.h26 (ready_dep hi 26 (by kernel_rfl));subst e26;have e27:v43=.agg #[.int .i64 4,.string ⟨#[]⟩,.func (.func 62) #[] #[],.int .i64 0,.int .i64 10000]:=H.h27 (ready_dep hi 27 (by kernel_rfl));subst e27;have HL:=hid (SlA.lit w' #[.int .i64 2,.string ⟨#[]⟩,.nilFunc,.int .i64 0,.int .i64 0,.int .i64 0,.string ⟨#[112,104,97,115,101]⟩,.nilFunc,.int .i64 0,.int .i64 0,.int .i64 4,.string ⟨#[]⟩,.func (.func 62) #[] #[],.int .i64 0,.int .i64 10000] ([nameS,fixS [112,104,97,115,101],nmbS 3 0 10000]) rfl (by decide));have HB9:=hid (below_new w' (.cells #[.int .i64 2,.string ⟨#[]⟩,.nilFunc,.int .i64 0,.int .i64 0,.int .i64 0,.string ⟨#[112,104,97,115,101]⟩,.nilFunc,.int .i64 0,.int .i64 0,.int .i64 4,.string ⟨#[]⟩,.func (.func 62) #[] #[],.int .i64 0,.int .i64 10000] 60));refine wpOp_hidden rfl fun K hK=>?_;go_wp2;refine OnlyN.mk (hK.out _ _ ⟨⟨_,_,_,_,_,_,_,_,_,_,_,_,_,_,_,_,_,_,_,_,_,_,_,_,_,_,_,_,true,_,_,_,_,_,_,_,_,_,_,_,_,_,_,_,_,_,_,_,_,_,_,_,_,_,_,_,_,_,_,_,_,_,_,_,_,_,_,_,_,_,_,_,_,_,_,_,_,_,_,_,_,_,_,.slice (some ⟨w'.heap.size,0,none⟩) 3 3,_,_,_,_,_,_,_,_,_,_,_,_,_,_,_,_,_,_,_,_,_,_,_,_,_,_⟩,rfl,rfl,{ H.world HB9.out with s28:=fun _=>HL.out }⟩)
  ·refine wpOp_hidden rfl fun K hK=>?_;go_wp2;refine OnlyN.mk (hK.out _ _ ⟨⟨_,_,_,_,_,_,_,_,_,_,_,_,_,_,_,_,_,_,_,_,_,_,_,_,_,_,_,_,_,true,_,_,_,_,_,_,_,_,_,_,_,_,_,_,_,_,_,_,_,_,_,_,_,_,_,_,_,_,_,_,_,_,_,_,_,_,_,_,_,_,_,_,_,_,_,_,_,_,_,_,_,_,_,_,.slice (some ⟨pA,0,none⟩) 3 3,_,_,_,_,_,_,_,_,_,_,_,_,_,_,_,_,_,_,_,_,_,_,_,_,_⟩,rfl,rfl,{ H with h29:=fun _=>rfl }⟩)
  ·have HCALL:=hid (is_any ⟨#[116,117,114,110]⟩ w');refine wpOp_hidden rfl fun K hK=>?_;go_wp2_with (go_at_call 55;refine HCALL.out.mono ?_;intro e w9 hx;obtain⟨rfl,hb9⟩:=hx;refine Hid.out ?_);refine hid ?_;have HB9:=hid hb9;clear hb9 HCALL;go_wp2;refine OnlyN.mk (hK.out _ _ ⟨⟨_,_,_,_,_,_,_,_,_,_,_,_,_,_,_,_,_,_,_,_,_,_,_,_,_,_,_,_,_,_,true,_,_,_,_,_,_,_,_,_,_,_,_,_,_,_,_,_,_,_,_,_,_,_,_,_,_,_,_,_,_,_,_,_,_,_,_,_,_,_,_,_,_,_,_,_,_,_,_,_,_,_,_,_,_,.agg #[.int .i64 0,.string ⟨#[116,117,114,110]⟩,.nilFunc,.int .i64 0,.int .i64 0],_,_,_,_,_,_,_,_,_,_,_,_,_,_,_,_,_,_,_,_,_,_,_,_⟩,rfl,rfl,{ H.world HB9.out with h30:=fun _=>rfl }⟩)
  ·refine wpOp_hidden rfl fun K hK=>?_;go_wp2;refine OnlyN.mk (hK.out _ _ ⟨⟨_,_,_,_,_,_,_,_,_,_,_,_,_,_,_,_,_,_,_,_,_,_,_,_,_,_,_,_,_,_,_,true,_,_,_,_,_,_,_,_,_,_,_,_,_,_,_,_,_,_,_,_,_,_,_,_,_,_,_,_,_,_,_,_,_,_,_,_,_,_,_,_,_,_,_,_,_,_,_,_,_,_,_,_,_,_,.agg #[.int .i64 4,.string ⟨#[]⟩,.func (.func 63) #[] #[],.int .i64 0,.int .i64 7],_,_,_,_,_,_,_,_,_,_,_,_,_,_,_,_,_,_,_,_,_,_,_⟩,rfl,rfl,{ H with h31:=fun _=>rfl }⟩)
  ·have e30:v46=.agg #[.int .i64 0,.string ⟨#[116,117,114,110]⟩,.nilFunc,.int .i64 0,.int .i64 0]:=H.h30 (ready_dep hi 30 (by kernel_rfl));subst e30;have e31:v47=.agg #[.int .i64 4,.string ⟨#[]⟩,.func (.func 63) #[] #[],.int .i64 0,.int .i64 7]:=H.h31 (ready_dep hi 31 (by kernel_rfl));subst e31;have HL:=hid (SlA.lit w' #[.int .i64 0,.string ⟨#[116,117,114,110]⟩,.nilFunc,.int .i64 0,.int .i64 0,.int .i64 4,.string ⟨#[]⟩,.func (.func 63) #[] #[],.int .i64 0,.int .i64 7] ([turnS,nmbS 4 0 7]) rfl (by decide));have HB9:=hid (below_new w' (.cells #[.int .i64 0,.string ⟨#[116,117,114,110]⟩,.nilFunc,.int .i64 0,.int .i64 0,.int .i64 4,.string ⟨#[]⟩,.func (.func 63) #[] #[],.int .i64 0,.int .i64 7] 60));refine wpOp_hidden rfl fun K hK=>?_;go_wp2;refine OnlyN.mk (hK.out _ _ ⟨⟨_,_,_,_,_,_,_,_,_,_,_,_,_,_,_,_,_,_,_,_,_,_,_,_,_,_,_,_,_,_,_,_,true,_,_,_,_,_,_,_,_,_,_,_,_,_,_,_,_,_,_,_,_,_,_,_,_,_,_,_,_,_,_,_,_,_,_,_,_,_,_,_,_,_,_,_,_,_,_,_,_,_,_,_,_,_,_,.slice (some ⟨w'.heap.size,0,none⟩) 2 2,_,_,_,_,_,_,_,_,_,_,_,_,_,_,_,_,_,_,_,_,_,_⟩,rfl,rfl,{ H.world HB9.out with s32:=fun _=>HL.out }⟩)
  ·have q28:=H.s28 (ready_dep hi 28 (by kernel_rfl));obtain⟨A28,c28,e28⟩:∃ A c,v44=.slice A 3 c:=q28.form;subst e28;have HQ28:=hid q28;clear q28;have e29:v45=.slice (some ⟨pA,0,none⟩) 3 3:=H.h29 (ready_dep hi 29 (by kernel_rfl));subst e29;have q32:=H.s32 (ready_dep hi 32 (by kernel_rfl));obtain⟨A32,c32,e32⟩:∃ A c,v48=.slice A 2 c:=q32.form;subst e32;have HQ32:=hid q32;clear q32;have HL:=hid (SsA.lit3 HQ28.out (HAT.out.ext H.below) HQ32.out);have HB9:=hid (below_new w' (.cells #[.slice A28 3 c28,.slice (some ⟨pA,0,none⟩) 3 3,.slice A32 2 c32] 50));refine wpOp_hidden rfl fun K hK=>?_;go_wp2;refine OnlyN.mk (hK.out _ _ ⟨⟨_,_,_,_,_,_,_,_,_,_,_,_,_,_,_,_,_,_,_,_,_,_,_,_,_,_,_,_,_,_,_,_,_,true,_,_,_,_,_,_,_,_,_,_,_,_,_,_,_,_,_,_,_,_,_,_,_,_,_,_,_,_,_,_,_,_,_,_,_,_,_,_,_,_,_,_,_,_,_,_,_,_,_,_,_,_,_,_,.slice (some ⟨w'.heap.size,0,none⟩) 3 3,_,_,_,_,_,_,_,_,_,_,_,_,_,_,_,_,_,_,_,_,_⟩,rfl,rfl,{ H.world HB9.out with s33:=fun _=>HL.out }⟩)
  ·have e24:v40=.func (.func 61) #[] #[]:=H.h24 (ready_dep hi 24 (by kernel_rfl));subst e24;have HCALL:=hid (list_any v49 [[nameS,fixS [112,104,97,115,101],nmbS 3 0 10000],atS,[turnS,nmbS 4 0 7]] w' (H.s33 (ready_dep hi 33 (by kernel_rfl))) (by decide));refine wpOp_hidden rfl fun K hK=>?_;go_wp2_with (go_at_call 61;refine HCALL.out.mono ?_;intro e w9 hx;obtain⟨v9,rfl,hs9,hb9⟩:=hx;refine Hid.out ?_);refine hid ?_;have HB9:=hid hb9;have HS9:Hid (SlA w9 v9 ([nameS,fixS [112,104,97,115,101],nmbS 3 0 10000] ++ atS ++ [turnS,nmbS 4 0 7])):=hid hs9;clear hb9 hs9 HCALL;go_wp2;refine OnlyN.mk (hK.out _ _ ⟨⟨_,_,_,_,_,_,_,_,_,_,_,_,_,_,_,_,_,_,_,_,_,_,_,_,_,_,_,_,_,_,_,_,_,_,true,_,_,_,_,_,_,_,_,_,_,_,_,_,_,_,_,_,_,_,_,_,_,_,_,_,_,_,_,_,_,_,_,_,_,_,_,_,_,_,_,_,_,_,_,_,_,_,_,_,_,_,_,_,_,v9,_,_,_,_,_,_,_,_,_,_,_,_,_,_,_,_,_,_,_,_⟩,rfl,rfl,{ H.world HB9.out with s34:=fun _=>HS9.out }⟩)
  ·have q9:=H.s34 (ready_dep hi 34 (by kernel_rfl));obtain⟨A9,c9,e9⟩:∃ A c,v50=.slice A 8 c:=q9.form;subst e9;have HQ:=hid q9;clear q9;refine wpOp_hidden rfl fun K hK=>?_;go_wp2;refine OnlyN.mk (hK.out _ _ ⟨⟨_,_,_,_,_,_,_,_,_,_,_,_,_,_,_,_,_,_,_,_,_,_,_,_,_,_,_,_,_,_,_,_,_,_,_,true,_,_,_,_,_,_,_,_,_,_,_,_,_,_,_,_,_,_,_,_,_,_,_,_,_,_,_,_,_,_,_,_,_,_,_,_,_,_,_,_,_,_,_,_,_,_,_,_,_,_,_,_,_,_,.agg #[.string ⟨#[115,104,111,116]⟩,.int .i64 5,.slice A9 8 c9],_,_,_,_,_,_,_,_,_,_,_,_,_,_,_,_,_,_,_⟩,rfl,rfl,{ H with s35:=fun _=>⟨_,rfl,HQ.out⟩ }⟩)
  ·have kk:=HK5.out.below H.below HK5.out.lt;have cc0:=kk.cell_ 0 _ rfl;have cc1:=kk.cell_ 1 _ rfl;have cc2:=kk.cell_ 2 _ rfl;have cc3:=kk.cell_ 3 _ rfl;have cc4:=kk.cell_ 4 _ rfl;clear kk;refine wpOp_hidden rfl fun K hK=>?_;go_wp2;refine OnlyN.mk (hK.out _ _ ⟨⟨_,_,_,_,_,_,_,_,_,_,_,_,_,_,_,_,_,_,_,_,_,_,_,_,_,_,_,_,_,_,_,_,_,_,_,_,true,_,_,_,_,_,_,_,_,_,_,_,_,_,_,_,_,_,_,_,_,_,_,_,_,_,_,_,_,_,_,_,_,_,_,_,_,_,_,_,_,_,_,_,_,_,_,_,_,_,_,_,_,_,_,.agg #[.int .i64 4,.string ⟨#[]⟩,.func (.func 62) #[] #[],.int .i64 0,.int .i64 10000],_,_,_,_,_,_,_,_,_,_,_,_,_,_,_,_,_,_⟩,rfl,rfl,{ H with h36:=fun _=>rfl }⟩)
  ·have e36:v52=.agg #[.int .i64 4,.string ⟨#[]⟩,.func (.func 62) #[] #[],.int .i64 0,.int .i64 10000]:=H.h36 (ready_dep hi 36 (by kernel_rfl));subst e36;have HL:=hid (SlA.lit w' #[.int .i64 4,.string ⟨#[]⟩,.func (.func 62) #[] #[],.int .i64 0,.int .i64 10000] ([nmbS 3 0 10000]) rfl (by decide));have HB9:=hid (below_new w' (.cells #[.int .i64 4,.string ⟨#[]⟩,.func (.func 62) #[] #[],.int .i64 0,.int .i64 10000] 60));refine wpOp_hidden rfl fun K hK=>?_;go_wp2;refine OnlyN.mk (hK.out _ _ ⟨⟨_,_,_,_,_,_,_,_,_,_,_,_,_,_,_,_,_,_,_,_,_,_,_,_,_,_,_,_,_,_,_,_,_,_,_,_,_,true,_,_,_,_,_,_,_,_,_,_,_,_,_,_,_,_,_,_,_,_,_,_,_,_,_,_,_,_,_,_,_,_,_,_,_,_,_,_,_,_,_,_,_,_,_,_,_,_,_,_,_,_,_,_,.slice (some ⟨w'.heap.size,0,none⟩) 1 1,_,_,_,_,_,_,_,_,_,_,_,_,_,_,_,_,_⟩,rfl,rfl,{ H.world HB9.out with s37:=fun _=>HL.out }⟩)
  ·have q9:=H.s37 (ready_dep hi 37 (by kernel_rfl));obtain⟨A9,c9,e9⟩:∃ A c,v53=.slice A 1 c:=q9.form;subst e9;have HQ:=hid q9;clear q9;refine wpOp_hidden rfl fun K hK=>?_;go_wp2;refine OnlyN.mk (hK.out _ _ ⟨⟨_,_,_,_,_,_,_,_,_,_,_,_,_,_,_,_,_,_,_,_,_,_,_,_,_,_,_,_,_,_,_,_,_,_,_,_,_,_,true,_,_,_,_,_,_,_,_,_,_,_,_,_,_,_,_,_,_,_,_,_,_,_,_,_,_,_,_,_,_,_,_,_,_,_,_,_,_,_,_,_,_,_,_,_,_,_,_,_,_,_,_,_,_,.agg #[.string ⟨#[114,117,110]⟩,.int .i64 6,.slice A9 1 c9],_,_,_,_,_,_,_,_,_,_,_,_,_,_,_,_⟩,rfl,rfl,{ H with s38:=fun _=>⟨_,rfl,HQ.out⟩ }⟩)
  ·refine wpOp_hidden rfl fun K hK=>?_;go_wp2;refine OnlyN.mk (hK.out _ _ ⟨⟨_,_,_,_,_,_,_,_,_,_,_,_,_,_,_,_,_,_,_,_,_,_,_,_,_,_,_,_,_,_,_,_,_,_,_,_,_,_,_,true,_,_,_,_,_,_,_,_,_,_,_,_,_,_,_,_,_,_,_,_,_,_,_,_,_,_,_,_,_,_,_,_,_,_,_,_,_,_,_,_,_,_,_,_,_,_,_,_,_,_,_,_,_,_,.func (.func 61) #[] #[],_,_,_,_,_,_,_,_,_,_,_,_,_,_,_⟩,rfl,rfl,{ H with h39:=fun _=>rfl }⟩)
  ·have kk:=HK1.out.below H.below HK1.out.lt;have cc0:=kk.cell_ 0 _ rfl;have cc1:=kk.cell_ 1 _ rfl;have cc2:=kk.cell_ 2 _ rfl;have cc3:=kk.cell_ 3 _ rfl;have cc4:=kk.cell_ 4 _ rfl;clear kk;refine wpOp_hidden rfl fun K hK=>?_;go_wp2;refine OnlyN.mk (hK.out _ _ ⟨⟨_,_,_,_,_,_,_,_,_,_,_,_,_,_,_,_,_,_,_,_,_,_,_,_,_,_,_,_,_,_,_,_,_,_,_,_,_,_,_,_,true,_,_,_,_,_,_,_,_,_,_,_,_,_,_,_,_,_,_,_,_,_,_,_,_,_,_,_,_,_,_,_,_,_,_,_,_,_,_,_,_,_,_,_,_,_,_,_,_,_,_,_,_,_,_,.agg #[.int .i64 2,.string ⟨#[]⟩,.nilFunc,.int .i64 0,.int .i64 0],_,_,_,_,_,_,_,_,_,_,_,_,_,_⟩,rfl,rfl,{ H with h40:=fun _=>rfl }⟩)
  ·have e40:v56=.agg #[.int .i64 2,.string ⟨#[]⟩,.nilFunc,.int .i64 0,.int .i64 0]:=H.h40 (ready_dep hi 40 (by kernel_rfl));subst e40;have HL:=hid (SlA.lit w' #[.int .i64 2,.string ⟨#[]⟩,.nilFunc,.int .i64 0,.int .i64 0] ([nameS]) rfl (by decide));have HB9:=hid (below_new w' (.cells #[.int .i64 2,.string ⟨#[]⟩,.nilFunc,.int .i64 0,.int .i64 0] 60));refine wpOp_hidden rfl fun K hK=>?_;go_wp2;refine OnlyN.mk (hK.out _ _ ⟨⟨_,_,_,_,_,_,_,_,_,_,_,_,_,_,_,_,_,_,_,_,_,_,_,_,_,_,_,_,_,_,_,_,_,_,_,_,_,_,_,_,_,true,_,_,_,_,_,_,_,_,_,_,_,_,_,_,_,_,_,_,_,_,_,_,_,_,_,_,_,_,_,_,_,_,_,_,_,_,_,_,_,_,_,_,_,_,_,_,_,_,_,_,_,_,_,_,.slice (some ⟨w'.heap.size,0,none⟩) 1 1,_,_,_,_,_,_,_,_,_,_,_,_,_⟩,rfl,rfl,{ H.world HB9.out with s41:=fun _=>HL.out }⟩)
  ·refine wpOp_hidden rfl fun K hK=>?_;go_wp2;refine OnlyN.mk (hK.out _ _ ⟨⟨_,_,_,_,_,_,_,_,_,_,_,_,_,_,_,_,_,_,_,_,_,_,_,_,_,_,_,_,_,_,_,_,_,_,_,_,_,_,_,_,_,_,true,_,_,_,_,_,_,_,_,_,_,_,_,_,_,_,_,_,_,_,_,_,_,_,_,_,_,_,_,_,_,_,_,_,_,_,_,_,_,_,_,_,_,_,_,_,_,_,_,_,_,_,_,_,_,.slice (some ⟨pA,0,none⟩) 3 3,_,_,_,_,_,_,_,_,_,_,_,_⟩,rfl,rfl,{ H with h42:=fun _=>rfl }⟩)
  ·have q41:=H.s41 (ready_dep hi 41 (by kernel_rfl));obtain⟨A41,c41,e41⟩:∃ A c,v57=.slice A 1 c:=q41.form;subst e41;have HQ41:=hid q41;clear q41;have e42:v58=.slice (some ⟨pA,0,none⟩) 3 3:=H.h42 (ready_dep hi 42 (by kernel_rfl));subst e42;have HL:=hid (SsA.lit2 HQ41.out (HAT.out.ext H.below));have HB9:=hid (below_new w' (.cells #[.slice A41 1 c41,.slice (some ⟨pA,0,none⟩) 3 3] 50));refine wpOp_hidden rfl fun K hK=>?_;go_wp2;refine OnlyN.mk (hK.out _ _ ⟨⟨_,_,_,_,_,_,_,_,_,_,_,_,_,_,_,_,_,_,_,_,_,_,_,_,_,_,_,_,_,_,_,_,_,_,_,_,_,_,_,_,_,_,_,true,_,_,_,_,_,_,_,_,_,_,_,_,_,_,_,_,_,_,_,_,_,_,_,_,_,_,_,_,_,_,_,_,_,_,_,_,_,_,_,_,_,_,_,_,_,_,_,_,_,_,_,_,_,_,.slice (some ⟨w'.heap.size,0,none⟩) 2 2,_,_,_,_,_,_,_,_,_,_,_⟩,rfl,rfl,{ H.world HB9.out with s43:=fun _=>HL.out }⟩)
  ·have e39:v55=.func (.func 61) #[] #[]:=H.h39 (ready_dep hi 39 (by kernel_rfl));subst e39;have HCALL:=hid (list_any v59 [[nameS],atS] w' (H.s43 (ready_dep hi 43 (by kernel_rfl))) (by decide));refine wpOp_hidden rfl fun K hK=>?_;go_wp2_with (go_at_call 61;refine HCALL.out.mono ?_;intro e w9 hx;obtain⟨v9,rfl,hs9,hb9⟩:=hx;refine Hid.out ?_);refine hid ?_;have HB9:=hid hb9;have HS9:Hid (SlA w9 v9 ([nameS] ++ atS)):=hid hs9;clear hb9 hs9 HCALL;go_wp2;refine OnlyN.mk (hK.out _ _ ⟨⟨_,_,_,_,_,_,_,_,_,_,_,_,_,_,_,_,_,_,_,_,_,_,_,_,_,_,_,_,_,_,_,_,_,_,_,_,_,_,_,_,_,_,_,_,true,_,_,_,_,_,_,_,_,_,_,_,_,_,_,_,_,_,_,_,_,_,_,_,_,_,_,_,_,_,_,_,_,_,_,_,_,_,_,_,_,_,_,_,_,_,_,_,_,_,_,_,_,_,_,v9,_,_,_,_,_,_,_,_,_,_⟩,rfl,rfl,{ H.world HB9.out with s44:=fun _=>HS9.out }⟩)
  ·have q9:=H.s44 (ready_dep hi 44 (by kernel_rfl));obtain⟨A9,c9,e9⟩:∃ A c,v60=.slice A 4 c:=q9.form;subst e9;have HQ:=hid q9;clear q9;refine wpOp_hidden rfl fun K hK=>?_;go_wp2;refine OnlyN.mk (hK.out _ _ ⟨⟨_,_,_,_,_,_,_,_,_,_,_,_,_,_,_,_,_,_,_,_,_,_,_,_,_,_,_,_,_,_,_,_,_,_,_,_,_,_,_,_,_,_,_,_,_,true,_,_,_,_,_,_,_,_,_,_,_,_,_,_,_,_,_,_,_,_,_,_,_,_,_,_,_,_,_,_,_,_,_,_,_,_,_,_,_,_,_,_,_,_,_,_,_,_,_,_,_,_,_,_,.agg #[.string ⟨#[101,120,112,101,99,116]⟩,.int .i64 7,.slice A9 4 c9],_,_,_,_,_,_,_,_,_⟩,rfl,rfl,{ H with s45:=fun _=>⟨_,rfl,HQ.out⟩ }⟩)
  ·refine wpOp_hidden rfl fun K hK=>?_;go_wp2;refine OnlyN.mk (hK.out _ _ ⟨⟨_,_,_,_,_,_,_,_,_,_,_,_,_,_,_,_,_,_,_,_,_,_,_,_,_,_,_,_,_,_,_,_,_,_,_,_,_,_,_,_,_,_,_,_,_,_,true,_,_,_,_,_,_,_,_,_,_,_,_,_,_,_,_,_,_,_,_,_,_,_,_,_,_,_,_,_,_,_,_,_,_,_,_,_,_,_,_,_,_,_,_,_,_,_,_,_,_,_,_,_,_,.agg #[.string ⟨#[99,108,101,97,114]⟩,.int .i64 8,.slice none 0 0],_,_,_,_,_,_,_,_⟩,rfl,rfl,{ H with s46:=fun _=>⟨_,rfl,SlA.nil⟩ }⟩)
  ·have kk:=HK1.out.below H.below HK1.out.lt;have cc0:=kk.cell_ 0 _ rfl;have cc1:=kk.cell_ 1 _ rfl;have cc2:=kk.cell_ 2 _ rfl;have cc3:=kk.cell_ 3 _ rfl;have cc4:=kk.cell_ 4 _ rfl;clear kk;refine wpOp_hidden rfl fun K hK=>?_;go_wp2;refine OnlyN.mk (hK.out _ _ ⟨⟨_,_,_,_,_,_,_,_,_,_,_,_,_,_,_,_,_,_,_,_,_,_,_,_,_,_,_,_,_,_,_,_,_,_,_,_,_,_,_,_,_,_,_,_,_,_,_,true,_,_,_,_,_,_,_,_,_,_,_,_,_,_,_,_,_,_,_,_,_,_,_,_,_,_,_,_,_,_,_,_,_,_,_,_,_,_,_,_,_,_,_,_,_,_,_,_,_,_,_,_,_,_,.agg #[.int .i64 2,.string ⟨#[]⟩,.nilFunc,.int .i64 0,.int .i64 0],_,_,_,_,_,_,_⟩,rfl,rfl,{ H with h47:=fun _=>rfl }⟩)
  ·have e47:v63=.agg #[.int .i64 2,.string ⟨#[]⟩,.nilFunc,.int .i64 0,.int .i64 0]:=H.h47 (ready_dep hi 47 (by kernel_rfl));subst e47;have HL:=hid (SlA.lit w' #[.int .i64 2,.string ⟨#[]⟩,.nilFunc,.int .i64 0,.int .i64 0] ([nameS]) rfl (by decide));have HB9:=hid (below_new w' (.cells #[.int .i64 2,.string ⟨#[]⟩,.nilFunc,.int .i64 0,.int .i64 0] 60));refine wpOp_hidden rfl fun K hK=>?_;go_wp2;refine OnlyN.mk (hK.out _ _ ⟨⟨_,_,_,_,_,_,_,_,_,_,_,_,_,_,_,_,_,_,_,_,_,_,_,_,_,_,_,_,_,_,_,_,_,_,_,_,_,_,_,_,_,_,_,_,_,_,_,_,true,_,_,_,_,_,_,_,_,_,_,_,_,_,_,_,_,_,_,_,_,_,_,_,_,_,_,_,_,_,_,_,_,_,_,_,_,_,_,_,_,_,_,_,_,_,_,_,_,_,_,_,_,_,_,.slice (some ⟨w'.heap.size,0,none⟩) 1 1,_,_,_,_,_,_⟩,rfl,rfl,{ H.world HB9.out with s48:=fun _=>HL.out }⟩)
  ·have q9:=H.s48 (ready_dep hi 48 (by kernel_rfl));obtain⟨A9,c9,e9⟩:∃ A c,v64=.slice A 1 c:=q9.form;subst e9;have HQ:=hid q9;clear q9;refine wpOp_hidden rfl fun K hK=>?_;go_wp2;refine OnlyN.mk (hK.out _ _ ⟨⟨_,_,_,_,_,_,_,_,_,_,_,_,_,_,_,_,_,_,_,_,_,_,_,_,_,_,_,_,_,_,_,_,_,_,_,_,_,_,_,_,_,_,_,_,_,_,_,_,_,true,_,_,_,_,_,_,_,_,_,_,_,_,_,_,_,_,_,_,_,_,_,_,_,_,_,_,_,_,_,_,_,_,_,_,_,_,_,_,_,_,_,_,_,_,_,_,_,_,_,_,_,_,_,_,.agg #[.string ⟨#[115,97,118,101]⟩,.int .i64 9,.slice A9 1 c9],_,_,_,_,_⟩,rfl,rfl,{ H with s49:=fun _=>⟨_,rfl,HQ.out⟩ }⟩)
  ·refine wpOp_hidden rfl fun K hK=>?_;go_wp2;refine OnlyN.mk (hK.out _ _ ⟨⟨_,_,_,_,_,_,_,_,_,_,_,_,_,_,_,_,_,_,_,_,_,_,_,_,_,_,_,_,_,_,_,_,_,_,_,_,_,_,_,_,_,_,_,_,_,_,_,_,_,_,true,_,_,_,_,_,_,_,_,_,_,_,_,_,_,_,_,_,_,_,_,_,_,_,_,_,_,_,_,_,_,_,_,_,_,_,_,_,_,_,_,_,_,_,_,_,_,_,_,_,_,_,_,_,_,.agg #[.string ⟨#[112,114,105,110,116]⟩,.int .i64 10,.slice none 0 0],_,_,_,_⟩,rfl,rfl,{ H with s50:=fun _=>⟨_,rfl,SlA.nil⟩ }⟩)
  ·refine wpOp_hidden rfl fun K hK=>?_;go_wp2;refine OnlyN.mk (hK.out _ _ ⟨⟨_,_,_,_,_,_,_,_,_,_,_,_,_,_,_,_,_,_,_,_,_,_,_,_,_,_,_,_,_,_,_,_,_,_,_,_,_,_,_,_,_,_,_,_,_,_,_,_,_,_,_,true,_,_,_,_,_,_,_,_,_,_,_,_,_,_,_,_,_,_,_,_,_,_,_,_,_,_,_,_,_,_,_,_,_,_,_,_,_,_,_,_,_,_,_,_,_,_,_,_,_,_,_,_,_,_,.agg #[.string ⟨#[99,101,110,115,117,115]⟩,.int .i64 11,.slice none 0 0],_,_,_⟩,rfl,rfl,{ H with s51:=fun _=>⟨_,rfl,SlA.nil⟩ }⟩)
  ·refine wpOp_hidden rfl fun K hK=>?_;go_wp2;refine OnlyN.mk (hK.out _ _ ⟨⟨_,_,_,_,_,_,_,_,_,_,_,_,_,_,_,_,_,_,_,_,_,_,_,_,_,_,_,_,_,_,_,_,_,_,_,_,_,_,_,_,_,_,_,_,_,_,_,_,_,_,_,_,true,_,_,_,_,_,_,_,_,_,_,_,_,_,_,_,_,_,_,_,_,_,_,_,_,_,_,_,_,_,_,_,_,_,_,_,_,_,_,_,_,_,_,_,_,_,_,_,_,_,_,_,_,_,_,.agg #[.string ⟨#[99,111,117,110,116]⟩,.int .i64 12,.slice none 0 0],_,_⟩,rfl,rfl,{ H with s52:=fun _=>⟨_,rfl,SlA.nil⟩ }⟩)
  ·obtain⟨sv2,es2,q2⟩:=H.s2 (ready_dep hi 2 (by kernel_rfl));obtain⟨A2,c2,e2⟩:∃ A c,sv2=.slice A 1 c:=q2.form;subst e2 es2;have HQ2:=hid q2;clear q2;obtain⟨sv6,es6,q6⟩:=H.s6 (ready_dep hi 6 (by kernel_rfl));obtain⟨A6,c6,e6⟩:∃ A c,sv6=.slice A 2 c:=q6.form;subst e6 es6;have HQ6:=hid q6;clear q6;obtain⟨sv16,es16,q16⟩:=H.s16 (ready_dep hi 16 (by kernel_rfl));obtain⟨A16,c16,e16⟩:∃ A c,sv16=.slice A 6 c:=q16.form;subst e16 es16;have HQ16:=hid q16;clear q16;obtain⟨sv23,es23,q23⟩:=H.s23 (ready_dep hi 23 (by kernel_rfl));obtain⟨A23,c23,e23⟩:∃ A c,sv23=.slice A 4 c:=q23.form;subst e23 es23;have HQ23:=hid q23;clear q23;obtain⟨sv35,es35,q35⟩:=H.s35 (ready_dep hi 35 (by kernel_rfl));obtain⟨A35,c35,e35⟩:∃ A c,sv35=.slice A 8 c:=q35.form;subst e35 es35;have HQ35:=hid q35;clear q35;obtain⟨sv38,es38,q38⟩:=H.s38 (ready_dep hi 38 (by kernel_rfl));obtain⟨A38,c38,e38⟩:∃ A c,sv38=.slice A 1 c:=q38.form;subst e38 es38;have HQ38:=hid q38;clear q38;obtain⟨sv45,es45,q45⟩:=H.s45 (ready_dep hi 45 (by kernel_rfl));obtain⟨A45,c45,e45⟩:∃ A c,sv45=.slice A 4 c:=q45.form;subst e45 es45;have HQ45:=hid q45;clear q45;obtain⟨sv46,es46,q46⟩:=H.s46 (ready_dep hi 46 (by kernel_rfl));obtain⟨A46,c46,e46⟩:∃ A c,sv46=.slice A 0 c:=q46.form;subst e46 es46;have HQ46:=hid q46;clear q46;obtain⟨sv49,es49,q49⟩:=H.s49 (ready_dep hi 49 (by kernel_rfl));obtain⟨A49,c49,e49⟩:∃ A c,sv49=.slice A 1 c:=q49.form;subst e49 es49;have HQ49:=hid q49;clear q49;obtain⟨sv50,es50,q50⟩:=H.s50 (ready_dep hi 50 (by kernel_rfl));obtain⟨A50,c50,e50⟩:∃ A c,sv50=.slice A 0 c:=q50.form;subst e50 es50;have HQ50:=hid q50;clear q50;obtain⟨sv51,es51,q51⟩:=H.s51 (ready_dep hi 51 (by kernel_rfl));obtain⟨A51,c51,e51⟩:∃ A c,sv51=.slice A 0 c:=q51.form;subst e51 es51;have HQ51:=hid q51;clear q51;obtain⟨sv52,es52,q52⟩:=H.s52 (ready_dep hi 52 (by kernel_rfl));obtain⟨A52,c52,e52⟩:∃ A c,sv52=.slice A 0 c:=q52.form;subst e52 es52;have HQ52:=hid q52;clear q52;have HL:=hid (fm12 HQ2.out HQ6.out HQ16.out HQ23.out HQ35.out HQ38.out HQ45.out HQ46.out HQ49.out HQ50.out HQ51.out HQ52.out);have HB9:=hid (below_new w' (.cells #[.string ⟨#[114,117,108,101]⟩,.int .i64 1,.slice A2 1 c2,.string ⟨#[99,101,108,108,115]⟩,.int .i64 2,.slice A6 2 c6,.string ⟨#[112,117,116]⟩,.int .i64 3,.slice A16 6 c16,.string ⟨#[115,104,105,112]⟩,.int .i64 4,.slice A23 4 c23,.string ⟨#[115,104,111,116]⟩,.int .i64 5,.slice A35 8 c35,.string ⟨#[114,117,110]⟩,.int .i64 6,.slice A38 1 c38,.string ⟨#[101,120,112,101,99,116]⟩,.int .i64 7,.slice A45 4 c45,.string ⟨#[99,108,101,97,114]⟩,.int .i64 8,.slice A46 0 c46,.string ⟨#[115,97,118,101]⟩,.int .i64 9,.slice A49 1 c49,.string ⟨#[112,114,105,110,116]⟩,.int .i64 10,.slice A50 0 c50,.string ⟨#[99,101,110,115,117,115]⟩,.int .i64 11,.slice A51 0 c51,.string ⟨#[99,111,117,110,116]⟩,.int .i64 12,.slice A52 0 c52] 52));refine wpOp_hidden rfl fun K hK=>?_;go_wp2;refine OnlyN.mk (hK.out _ _ ⟨⟨_,_,_,_,_,_,_,_,_,_,_,_,_,_,_,_,_,_,_,_,_,_,_,_,_,_,_,_,_,_,_,_,_,_,_,_,_,_,_,_,_,_,_,_,_,_,_,_,_,_,_,_,_,true,_,_,_,_,_,_,_,_,_,_,_,_,_,_,_,_,_,_,_,_,_,_,_,_,_,_,_,_,_,_,_,_,_,_,_,_,_,_,_,_,_,_,_,_,_,_,_,_,_,_,_,_,_,_,.slice (some ⟨w'.heap.size,0,none⟩) 12 12,_⟩,rfl,rfl,{ H.world HB9.out with s53:=fun _=>HL.out }⟩)
  ·have HQ:=hid (H.s53 (ready_dep hi 53 (by kernel_rfl)));refine wpOp_hidden rfl fun K hK=>?_;go_wp2;refine OnlyN.mk (hK.out _ _ ⟨⟨_,_,_,_,_,_,_,_,_,_,_,_,_,_,_,_,_,_,_,_,_,_,_,_,_,_,_,_,_,_,_,_,_,_,_,_,_,_,_,_,_,_,_,_,_,_,_,_,_,_,_,_,_,_,true,_,_,_,_,_,_,_,_,_,_,_,_,_,_,_,_,_,_,_,_,_,_,_,_,_,_,_,_,_,_,_,_,_,_,_,_,_,_,_,_,_,_,_,_,_,_,_,_,_,_,_,_,_,_,v69⟩,rfl,rfl,{ H with s54:=fun _=>HQ.out }⟩)
 ·rintro listed act w' hr ⟨⟨b0,b1,b2,b3,b4,b5,b6,b7,b8,b9,b10,b11,b12,b13,b14,b15,b16,b17,b18,b19,b20,b21,b22,b23,b24,b25,b26,b27,b28,b29,b30,b31,b32,b33,b34,b35,b36,b37,b38,b39,b40,b41,b42,b43,b44,b45,b46,b47,b48,b49,b50,b51,b52,b53,b54,v16,v17,v18,v19,v20,v21,v22,v23,v24,v25,v26,v27,v28,v29,v30,v31,v32,v33,v34,v35,v36,v37,v38,v39,v40,v41,v42,v43,v44,v45,v46,v47,v48,v49,v50,v51,v52,v53,v54,v55,v56,v57,v58,v59,v60,v61,v62,v63,v64,v65,v66,v67,v68,v69,v0⟩,rfl,rfl,H⟩;dsimp only at hr ⊢;have hd:=ready_done hr (by kernel_rfl) (by kernel_rfl);have HF:=hid (H.s54 (hd 54 (of_decide_eq_true (by kernel_rfl))));clear hd hr;have HBL:=hid (HB.out.trans (H.below.mono HB.out.size));go_wp2;go_ret;exact⟨_,rfl,HF.out,HBL.out⟩
end Go.Proofs.YtcfelnhmifkelaaGreatDoor
