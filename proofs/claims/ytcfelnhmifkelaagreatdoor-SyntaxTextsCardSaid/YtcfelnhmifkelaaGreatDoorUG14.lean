/-
  texts ParseG9 Gram9 SynP Ready: parts of the proof; conditions stand with each theorem.
-/
import Derived.Test.YtcfelnhmifkelaaGreatDoorUG13
import Derived.Deep.Cut
import Derived.BigQuiet
import Derived.Test.YtcfelnhmifkelaaGreatDoorUG6
import Derived.Test.YtcfelnhmifkelaaGreatDoorUG0
namespace Go.Proofs.YtcfelnhmifkelaaGreatDoor
open Lib(hid)
open Go.RowKit
set_option maxRecDepth 100000
set_option linter.unusedVariables false
set_option linter.unusedSimpArgs false

def Glob9 (w:World):Prop:=∃ m,w.cell? ⟨0,0,none⟩=some (.int .i64 m)
theorem Glob9.ext {w w':World}(h:Glob9 w)(hb:Below w.heap.size w w'):Glob9 w':=by
 obtain⟨m,hm⟩:=h;exact⟨m,by rw[hb.cell (World.block_lt_of_cell? _ _ hm)];exact hm⟩
theorem Glob9.far {w w':World}(h:Glob9 w)(hb:Below w.heap.size w w'){g:Nat}(hg:0 < g)(u:Value){i:Nat}:Glob9 (w'.setCell ⟨g,i,none⟩ u):=by
 obtain⟨m,hm⟩:=h.ext hb;exact⟨m,by rw[((Below.refl (0+1) w').setCell (p:=⟨g,i,none⟩) (by simp;omega) u).cell (by simp)];exact hm⟩
theorem cutPre_any (l p:List UInt8)(w:World):Calls Tryz.prog 136 #[.string ⟨l.toArray⟩,.string ⟨p.toArray⟩] w fun e w'=>e=.returned (.tuple #[.string ⟨(Lib.trimPrefix l p).toArray⟩,.bool (Lib.hasPrefix l p)])∧w=w':=
 (Tryz.strings_CutPrefix ⟨l.toArray⟩ ⟨p.toArray⟩ w).mono fun e w' h=>⟨h.1,h.2.symm⟩
theorem cutB_any9 (l:List UInt8)(w:World):Calls Tryz.prog 136 #[.string ⟨l.toArray⟩,.string ⟨#[66]⟩] w fun e w'=>e=.returned (.tuple #[.string ⟨(restB9 l).toArray⟩,.bool (startB9 l)])∧w=w':=cutPre_any l [66] w
theorem cutS_any9 (l:List UInt8)(w:World):Calls Tryz.prog 136 #[.string ⟨l.toArray⟩,.string ⟨#[83]⟩] w fun e w'=>e=.returned (.tuple #[.string ⟨(restS l).toArray⟩,.bool (startS l)])∧w=w':=cutPre_any l [83] w
theorem cutC_any (l:List UInt8)(w:World):Calls Tryz.prog 136 #[.string ⟨l.toArray⟩,.string ⟨#[67]⟩] w fun e w'=>e=.returned (.tuple #[.string ⟨(restC l).toArray⟩,.bool (startC l)])∧w=w':=cutPre_any l [67] w
theorem cutV_any9 (l:List UInt8)(w:World)(hl:l.length < 4294967281):Calls Tryz.prog 152 #[.string ⟨l.toArray⟩,.string ⟨#[86]⟩] w fun e w'=>e=.returned (.tuple #[.string ⟨(cutV9 l).toArray⟩,.bool (tailV9 l)])∧w=w':=
 (Tryz.strings_CutSuffix ⟨l.toArray⟩ ⟨#[86]⟩ w (by simp[ByteArray.size];omega)).mono fun e w' h=>⟨h.1,h.2.symm⟩
theorem cutH_any9 (l:List UInt8)(w:World)(hl:l.length < 4294967281):Calls Tryz.prog 152 #[.string ⟨l.toArray⟩,.string ⟨#[72]⟩] w fun e w'=>e=.returned (.tuple #[.string ⟨(cutH9 l).toArray⟩,.bool (tailH9 l)])∧w=w':=
 (Tryz.strings_CutSuffix ⟨l.toArray⟩ ⟨#[72]⟩ w (by simp[ByteArray.size];omega)).mono fun e w' h=>⟨h.1,h.2.symm⟩
theorem countB_one (l:List UInt8):Lib.countB ⟨l.toArray⟩ ⟨#[47]⟩=l.count 47:=by
 show Lib.count l [47]=_;rw[Lib.count_one]
theorem split_any (l:List UInt8)(w:World)(hg:Glob9 w)(hl:l.length < 4294967281):Calls Tryz.prog 23 #[.string ⟨l.toArray⟩,.string ⟨#[47]⟩] w fun e w'=>e=.returned (.slice (some ⟨w.heap.size,0,none⟩) (l.count 47+1) (l.count 47+1))∧∃ o,w.alloc o=w':=by
 obtain⟨m,hm⟩:=hg;refine (Tryz.strings_Split ⟨l.toArray⟩ ⟨#[47]⟩ m w (by simpa [ByteArray.size] using hl) hm (by simp[ByteArray.size])).mono ?_;rintro e w' ⟨rfl,rfl⟩;rw[countB_one];exact⟨rfl,_,rfl⟩
theorem split3_any (a b c:List UInt8)(ha:(47:UInt8) ∉ a) (hb:(47:UInt8) ∉ b) (hc:(47:UInt8) ∉ c) (w:World)(hg:Glob9 w)(hl:(a ++ 47 :: (b ++ 47 :: c)).length < 4294967281) :
  Calls Tryz.prog 23 #[.string ⟨(a ++ 47 :: (b ++ 47 :: c)).toArray⟩,.string ⟨#[47]⟩] w fun e w'=>e=.returned (.slice (some ⟨w.heap.size,0,none⟩) 3 3)∧w.alloc (.cells #[.string ⟨a.toArray⟩,.string ⟨b.toArray⟩,.string ⟨c.toArray⟩] 9)=w':=by
 obtain⟨m,hm⟩:=hg;refine (Tryz.strings_Split ⟨(a ++ 47 :: (b ++ 47 :: c)).toArray⟩ ⟨#[47]⟩ m w (by simpa [ByteArray.size] using hl) hm (by simp[ByteArray.size])).mono ?_;rintro e w' ⟨rfl,rfl⟩;rw[countB_one,count_three ha hb hc,splitB_three ha hb];exact⟨rfl,rfl⟩
theorem below_bytes (w:World)(e:TypeId)(t:ByteArray):Below w.heap.size w (Lib.bytesWorld w e t):=
 ⟨rfl,rfl,rfl,by rw[Lib.bytesWorld_size];omega,fun j hj=>Lib.bytesWorld_at_old w e t j hj⟩
theorem digitsG_any (l:List UInt8)(w:World)(hl:l.length≤2147483648):Calls Tryz.prog 157 #[.string ⟨l.toArray⟩] w (RetIntsB (digG l).1 (digG l).2 w):=digits_any9 ⟨l.toArray⟩ w hl
set_option maxHeartbeats 4000000 in
theorem parseG_any (l:List UInt8)(w:World)(hg:Glob9 w)(hs:l.length≤2147483648) :
  Calls Tryz.prog 121 #[.string ⟨l.toArray⟩] w (RetTot9 (parseG l) w):=by
 have hO:=below_new w (.cells #[.slice none 0 0,.int .i64 0,.slice none 0 0,.slice none 0 0] 144);have br0:Blk (w.alloc (.cells #[.slice none 0 0,.int .i64 0,.slice none 0 0,.slice none 0 0] 144)) w.heap.size 144 #[.slice none 0 0,.int .i64 0,.slice none 0 0,.slice none 0 0]:=Blk.new _ _ _;have hg0:=hg.ext hO;have C1:=cutV_any9 l;have C2:=cutH_any9 l;have hV:(cutV9 l).length≤l.length:=trimSuffix_len9 _ _;have hH:(cutH9 l).length≤l.length:=trimSuffix_len9 _ _;have hP:∃ p,p=hoodP9 l:=⟨_,rfl⟩
 obtain⟨p,hp⟩:=hP;have hp':=hp;unfold hoodP9 at hp';unfold parseG;rw[← hp];have hpl:p.1.length≤2147483648:=by
  rw[hp']
  split
  ·exact Nat.le_trans hV hs
  ·split
   ·exact Nat.le_trans hH hs
   ·exact hs
 generalize tailV9 l=kv at *;generalize tailH9 l=kh at *;generalize cutV9 l=lv at *;generalize cutH9 l=lh at *;obtain⟨bd,hd⟩:=p;dsimp only at *;have H1:=hid (And.intro (fun w=>C1 w (by omega)) (fun w=>C2 w (by omega)));have HP:=hid hp';have HO:=hid (And.intro hO (And.intro br0 hg0));have HL:=hid hpl;clear C1 C2 hp' hp hV hH hs hO br0 hg0 hpl;go_enter Tryz.func121,Tryz.ntmps121;go_wp2_with fail;refine (moore_one _).mono ?_;rintro e w1 ⟨A1,a1,rfl,hp1,hn1,hb1⟩;have hO2:=HO.out.1.trans (hb1.mono HO.out.1.size);have hg1:=HO.out.2.2.ext hb1;have br1:=HO.out.2.1.below hb1 HO.out.2.1.lt;have hnh:NewA (w.heap.size+1) A1:=hn1.mono (by simp);have bt1:Blk (w1.alloc (.cells #[.slice A1 (mooreL 1).length a1,.int .i64 0,.slice none 0 0,.slice none 0 0] 144)) w1.heap.size 144 #[.slice A1 (mooreL 1).length a1,.int .i64 0,.slice none 0 0,.slice none 0 0]:=Blk.new _ _ _;have br2:=br1.alloc (.cells #[.slice A1 (mooreL 1).length a1,.int .i64 0,.slice none 0 0,.slice none 0 0] 144);have hO3:=hO2.alloc hO2.size (.cells #[.slice A1 (mooreL 1).length a1,.int .i64 0,.slice none 0 0,.slice none 0 0] 144);have hb2:=below_new w1 (.cells #[.slice A1 (mooreL 1).length a1,.int .i64 0,.slice none 0 0,.slice none 0 0] 144);have hp2:=hp1.ext hb2;have hg2:=hg1.ext hb2;have hlt:w.heap.size < w1.heap.size:=br1.lt;have hg0lt:0 < w1.heap.size:=by
  obtain⟨m,hm⟩:=hg1;exact World.block_lt_of_cell? _ _ hm
 have K1:=hid (And.intro hp1 (And.intro hp2 (And.intro hnh (And.intro hg2 (And.intro hO3 (And.intro br2 (And.intro bt1 hlt)))))));clear hp1 hp2 hnh hg2 hO3 br2 hlt hg1 hn1 hb1 hO2 hb2 br1;go_wp2_with fail;refine (H1.out.1 _).mono ?_;rintro e w2 ⟨rfl,rfl⟩
 go_upto_if 30 with fail
 go_cut [0] from 5 (fun v0 wx=>v0=.string ⟨bd.toArray⟩∧∃ A a,Blk wx w1.heap.size 144 #[.slice A hd.length a,.int .i64 0,.slice none 0 0,.slice none 0 0]∧Blk wx w.heap.size 144 #[.slice none 0 0,.int .i64 0,.slice none 0 0,.slice none 0 0]∧Pts wx A hd∧NewA (w.heap.size+1) A∧(∀ W i u,Pts W A hd→Pts (W.setCell ⟨w1.heap.size,i,none⟩ u) A hd)∧Below w.heap.size w wx∧Glob9 wx)
 case first=>
  have HPS:=HP.out;cases kv
  ·simp only[Bool.false_eq_true,if_false] at HPS;go_wp2_with fail;refine (H1.out.2 _).mono ?_;rintro e w2 ⟨rfl,rfl⟩;cases kh
   ·simp only[Bool.false_eq_true,if_false,Prod.mk.injEq] at HPS;obtain⟨rfl,rfl⟩:=HPS;go_wp2_with fail
    go_meet
    exact⟨rfl,A1,a1,bt1,K1.out.2.2.2.2.2.1,K1.out.2.1,K1.out.2.2.1,fun W i u h=>h.set_old K1.out.1 (by simp) u,K1.out.2.2.2.2.1,K1.out.2.2.2.1⟩
   ·simp only[if_true,Prod.mk.injEq] at HPS;obtain⟨rfl,rfl⟩:=HPS;go_wp2_with fail;refine (hex_any _).mono ?_;rintro e w2 ⟨A2,a2,rfl,hp2,hn2,hb2⟩;have bt2:=bt1.below hb2 bt1.lt;have br3:=K1.out.2.2.2.2.2.1.below hb2 K1.out.2.2.2.2.2.1.lt;have hO4:=K1.out.2.2.2.2.1.trans (hb2.mono K1.out.2.2.2.2.1.size);have hg3:=K1.out.2.2.2.1.ext hb2;have hlt:=K1.out.2.2.2.2.2.2.2;have hn2t:NewA (w1.heap.size+1) A2:=hn2.mono (by simp);have hnh:NewA (w.heap.size+1) A2:=hn2.mono (by simp;omega);have bt3:Blk (w2.setCell ⟨w1.heap.size,0,none⟩ (.slice A2 hexL.length a2)) w1.heap.size 144 #[.slice A2 hexL.length a2,.int .i64 0,.slice none 0 0,.slice none 0 0]:=bt2.set_ 0 _;have br4:=br3.far (p:=⟨w1.heap.size,0,none⟩) (by simp;omega) (.slice A2 hexL.length a2);have hO5:=hO4.setCell (p:=⟨w1.heap.size,0,none⟩) (by simp;omega) (.slice A2 hexL.length a2);have hfar:∀ (W:World) (i:Nat) (u:Value),Pts W A2 hexL→Pts (W.setCell ⟨w1.heap.size,i,none⟩ u) A2 hexL:=fun W i u h=>h.set_new hn2t (by simp) u;have hph:=hfar w2 0 (.slice A2 hexL.length a2) hp2;have hg4:Glob9 (w2.setCell ⟨w1.heap.size,0,none⟩ (.slice A2 hexL.length a2)):=K1.out.2.2.2.1.far hb2 hg0lt _;have c0:=bt2.cell_ 0 _ rfl;have f0:=bt2.frozen 0;have R:=hid (And.intro bt3 (And.intro br4 (And.intro hph (And.intro hnh (And.intro hfar (And.intro hO5 hg4))))));clear bt1 bt2 br3 hO4 hg3 hlt hn2t hnh bt3 br4 hO5 hfar hph hg4 hp2 hn2 hb2;go_wp2_with fail
    go_meet
    exact⟨rfl,A2,a2,R.out.1,R.out.2.1,R.out.2.2.1,R.out.2.2.2.1,R.out.2.2.2.2.1,R.out.2.2.2.2.2.1,R.out.2.2.2.2.2.2⟩

  ·simp only[if_true,Prod.mk.injEq] at HPS;obtain⟨rfl,rfl⟩:=HPS;go_wp2_with fail;refine (neum_one _).mono ?_;rintro e w2 ⟨A2,a2,rfl,hp2,hn2,hb2⟩;have bt2:=bt1.below hb2 bt1.lt;have br3:=K1.out.2.2.2.2.2.1.below hb2 K1.out.2.2.2.2.2.1.lt;have hO4:=K1.out.2.2.2.2.1.trans (hb2.mono K1.out.2.2.2.2.1.size);have hg3:=K1.out.2.2.2.1.ext hb2;have hlt:=K1.out.2.2.2.2.2.2.2;have hn2t:NewA (w1.heap.size+1) A2:=hn2.mono (by simp);have hnh:NewA (w.heap.size+1) A2:=hn2.mono (by simp;omega);have bt3:Blk (w2.setCell ⟨w1.heap.size,0,none⟩ (.slice A2 (neumL 1).length a2)) w1.heap.size 144 #[.slice A2 (neumL 1).length a2,.int .i64 0,.slice none 0 0,.slice none 0 0]:=bt2.set_ 0 _;have br4:=br3.far (p:=⟨w1.heap.size,0,none⟩) (by simp;omega) (.slice A2 (neumL 1).length a2);have hO5:=hO4.setCell (p:=⟨w1.heap.size,0,none⟩) (by simp;omega) (.slice A2 (neumL 1).length a2);have hfar:∀ (W:World) (i:Nat) (u:Value),Pts W A2 (neumL 1)→Pts (W.setCell ⟨w1.heap.size,i,none⟩ u) A2 (neumL 1):=fun W i u h=>h.set_new hn2t (by simp) u;have hph:=hfar w2 0 (.slice A2 (neumL 1).length a2) hp2;have hg4:Glob9 (w2.setCell ⟨w1.heap.size,0,none⟩ (.slice A2 (neumL 1).length a2)):=K1.out.2.2.2.1.far hb2 hg0lt _;have c0:=bt2.cell_ 0 _ rfl;have f0:=bt2.frozen 0;have R:=hid (And.intro bt3 (And.intro br4 (And.intro hph (And.intro hnh (And.intro hfar (And.intro hO5 hg4))))));clear bt1 bt2 br3 hO4 hg3 hlt hn2t hnh bt3 br4 hO5 hfar hph hg4 hp2 hn2 hb2;go_wp2_with fail
   go_meet
   exact⟨rfl,A2,a2,R.out.1,R.out.2.1,R.out.2.2.1,R.out.2.2.2.1,R.out.2.2.2.2.1,R.out.2.2.2.2.2.1,R.out.2.2.2.2.2.2⟩

 case rest=>
  obtain⟨rfl,A,a,hcut⟩:=hcut;have HC:=hid hcut;clear hcut bt1;by_cases k1:bd.count 47=2
  ·obtain⟨pa,pb,pc,hb,na,nb,nc⟩:=three_of k1;have HF:Hid (partsG bd=form3 bd pa pb pc):=hid (by rw[hb];exact parts_three na nb nc);have hbl:bd.length=pa.length+pb.length+pc.length+2:=by rw[hb];simp;omega
   have HLL:Hid (pa.length≤2147483648∧pb.length≤2147483648∧pc.length≤2147483648):=hid (by have:=HL.out;omega);have W1:=split3_any pa pb pc na nb nc wc HC.out.2.2.2.2.2.2 (by rw[← hb];have:=HL.out;omega);rw[← hb] at W1;have HW:=hid W1;have HN:=hid (And.intro na (And.intro nb nc));have HB:=hid hb;have C3:=cutB_any9 bd;obtain⟨kb,hkb⟩:∃ k,k=startB9 bd:=⟨_,rfl⟩
   obtain⟨rb,hrb⟩:∃ k,k=restB9 bd:=⟨_,rfl⟩
   rw[← hkb,← hrb] at C3;have HKB:=hid (And.intro hkb hrb);have H3:=hid C3;clear W1 na nb nc hb k1 hbl C3 hkb hrb;go_wp2_with fail;refine HW.out.mono ?_;rintro e w2 ⟨rfl,rfl⟩;have hbA:=below_new wc (.cells #[.string ⟨pa.toArray⟩,.string ⟨pb.toArray⟩,.string ⟨pc.toArray⟩] 9);have bp:Blk (wc.alloc (.cells #[.string ⟨pa.toArray⟩,.string ⟨pb.toArray⟩,.string ⟨pc.toArray⟩] 9)) wc.heap.size 9 #[.string ⟨pa.toArray⟩,.string ⟨pb.toArray⟩,.string ⟨pc.toArray⟩]:=Blk.new _ _ _;have p0:=bp.cell_ 0 (.string ⟨pa.toArray⟩) rfl;have p1:=bp.cell_ 1 (.string ⟨pb.toArray⟩) rfl;have p2:=bp.cell_ 2 (.string ⟨pc.toArray⟩) rfl;have HBA:=hid hbA;clear hbA bp HW;go_upto_region 11 with fail
   go_quiet (fail)
   have hbq:Below wc.heap.size wc ((wc.alloc (.cells #[.string ⟨pa.toArray⟩,.string ⟨pb.toArray⟩,.string ⟨pc.toArray⟩] 9)).drewN nq):=below_drewN HBA.out nq;clear p0 p1 p2 HBA;generalize (wc.alloc (.cells #[.string ⟨pa.toArray⟩,.string ⟨pb.toArray⟩,.string ⟨pc.toArray⟩] 9)).drewN nq=wq at *;have HBA:=hid hbq;clear hbq;go_wp2_with fail;refine (H3.out _).mono ?_;rintro e w2 ⟨rfl,rfl⟩
   go_upto_if 63 with fail
   go_cut [9,10,11,12] from 13 (fun v9 v10 v11 v12 wx=>∃ B S N,partsG bd=some (B,S,N)∧v10=.string ⟨B.toArray⟩∧v11=.string ⟨S.toArray⟩∧v12=.string ⟨N.toArray⟩∧B.length≤2147483648∧S.length≤2147483648∧N.length≤2147483648∧Below wc.heap.size wc wx)
   case first=>
    cases kb
    ·have HE:Hid (partsG bd=some (pb,pa,pc)):=hid (by rw[HF.out];unfold form3;rw[← HKB.out.1];rfl);go_wp2_with fail
     go_meet
     exact⟨pb,pa,pc,HE.out,rfl,rfl,rfl,HLL.out.2.1,HLL.out.1,HLL.out.2.2,HBA.out⟩
    ·have hsb:=startB_cons (a:=pa) (r:=pb ++ 47 :: pc) (by rw[← HB.out];exact HKB.out.1.symm);obtain⟨a',ea,er⟩:=hsb;rw[← HB.out,← HKB.out.2] at er;have na':(47:UInt8) ∉ a':=fun h=>HN.out.1 (by rw[ea];exact List.mem_cons_of_mem _ h);have hal:a'.length≤2147483648:=by have:=HLL.out.1;rw[ea] at this;simp at this;omega
     have HE:Hid (partsG bd=if startS pb then if startC pc then some (a',restS pb,restC pc) else none else none):=hid (by rw[HF.out];unfold form3;rw[← HKB.out.1,ea];rfl);have hS:(restS pb).length≤pb.length:=trimPrefix_len9 _ _;have hC:(restC pc).length≤pc.length:=trimPrefix_len9 _ _;have W3:=split3_any a' pb pc na' HN.out.2.1 HN.out.2.2 wq (HC.out.2.2.2.2.2.2.ext HBA.out) (by
      have h1:=HL.out;rw[HB.out,ea] at h1;simp at h1 ⊢;omega)
     rw[← er] at W3;have C4:=cutS_any9 pb;have C5:=cutC_any pc;obtain⟨ks,hks⟩:∃ k,k=startS pb:=⟨_,rfl⟩
     obtain⟨rs,hrs⟩:∃ k,k=restS pb:=⟨_,rfl⟩
     obtain⟨kc,hkc⟩:∃ k,k=startC pc:=⟨_,rfl⟩
     obtain⟨rc,hrc⟩:∃ k,k=restC pc:=⟨_,rfl⟩
     rw[← hks,← hrs] at C4;rw[← hkc,← hrc] at C5;rw[← hks,← hrs,← hkc,← hrc] at HE;rw[← hrs] at hS;rw[← hrc] at hC;have H4:=hid (And.intro W3 (And.intro C4 C5));have H5:Hid (a'.length≤2147483648∧rs.length≤2147483648∧rc.length≤2147483648):=hid (by have:=HLL.out;omega);clear W3 C4 C5 hks hrs hkc hrc hS hC na' hal er ea;go_wp2_with fail;refine H4.out.1.mono ?_;rintro e w3 ⟨rfl,rfl⟩;have hbB:=HBA.out.trans ((below_new wq (.cells #[.string ⟨a'.toArray⟩,.string ⟨pb.toArray⟩,.string ⟨pc.toArray⟩] 9)).mono HBA.out.size);have bq:Blk (wq.alloc (.cells #[.string ⟨a'.toArray⟩,.string ⟨pb.toArray⟩,.string ⟨pc.toArray⟩] 9)) wq.heap.size 9 #[.string ⟨a'.toArray⟩,.string ⟨pb.toArray⟩,.string ⟨pc.toArray⟩]:=by
      exact Blk.new _ _ _
     have q0:=bq.cell_ 0 (.string ⟨a'.toArray⟩) rfl;have q1:=bq.cell_ 1 (.string ⟨pb.toArray⟩) rfl;have q2:=bq.cell_ 2 (.string ⟨pc.toArray⟩) rfl;have HBB:=hid hbB;clear hbB bq;go_wp2_with fail;refine (H4.out.2.1 _).mono ?_;rintro e w4 ⟨rfl,rfl⟩;go_wp2_with fail;refine (H4.out.2.2 _).mono ?_;rintro e w4 ⟨rfl,rfl⟩;cases ks
     ·have HPN:Hid (partG (partsG bd) hd=(zeroT,15)):=hid (by rw[HE.out];rfl);have br:=HC.out.2.1.below HBB.out HC.out.2.1.lt;have r0:=br.cell_ 0 _ rfl;have r1:=br.cell_ 1 _ rfl;have r2:=br.cell_ 2 _ rfl;have r3:=br.cell_ 3 _ rfl;have g0:=br.frozen 0;have g1:=br.frozen 1;have g2:=br.frozen 2;have g3:=br.frozen 3;have HOZ:=hid (HC.out.2.2.2.2.2.1.trans (HBB.out.mono HC.out.2.2.2.2.2.1.size));clear br;go_wp2_with fail;refine bodyPost_ret (v:=.tuple #[.agg #[.slice none 0 0,.int .i64 0,.slice none 0 0,.slice none 0 0],.int .i64 15]) (by simp[results,Tryz.results121,go_sem,r0,r1,r2,r3]) rfl ?_;show RetTot9 (partG (partsG bd) hd) w _ _;rw[HPN.out];exact⟨none,0,none,0,none,0,rfl,TotR.zero _,below_set4 HOZ.out (Nat.le_refl _) _ _ _ _⟩

     cases kc
     ·have HPN:Hid (partG (partsG bd) hd=(zeroT,15)):=hid (by rw[HE.out];rfl);have br:=HC.out.2.1.below HBB.out HC.out.2.1.lt;have r0:=br.cell_ 0 _ rfl;have r1:=br.cell_ 1 _ rfl;have r2:=br.cell_ 2 _ rfl;have r3:=br.cell_ 3 _ rfl;have g0:=br.frozen 0;have g1:=br.frozen 1;have g2:=br.frozen 2;have g3:=br.frozen 3;have HOZ:=hid (HC.out.2.2.2.2.2.1.trans (HBB.out.mono HC.out.2.2.2.2.2.1.size));clear br;go_wp2_with fail;refine bodyPost_ret (v:=.tuple #[.agg #[.slice none 0 0,.int .i64 0,.slice none 0 0,.slice none 0 0],.int .i64 15]) (by simp[results,Tryz.results121,go_sem,r0,r1,r2,r3]) rfl ?_;show RetTot9 (partG (partsG bd) hd) w _ _;rw[HPN.out];exact⟨none,0,none,0,none,0,rfl,TotR.zero _,below_set4 HOZ.out (Nat.le_refl _) _ _ _ _⟩

     go_wp2_with fail
     go_meet
     exact⟨a',rs,rc,HE.out,rfl,rfl,rfl,H5.out.1,H5.out.2.1,H5.out.2.2,HBB.out⟩
   case rest=>
    obtain⟨B,S,N,hcut⟩:=hcut;obtain⟨hpn,rfl,rfl,rfl,hcut⟩:=hcut;have HQ:=hid hcut;have HPN:Hid (partG (partsG bd) hd=endG (digG B) (digG S) N hd):=hid (by rw[hpn];rfl);clear hcut hpn;have D1:=fun w=>digitsG_any B w HQ.out.1;have D2:=fun w=>digitsG_any S w HQ.out.2.1;have D3:=fun w=>number_any9 ⟨N.toArray⟩ w HQ.out.2.2.1;have HAT:Hid (numG N=true→Lib.atoi N=some (numV N)∧N.length≤3):=hid (fun h=>⟨atoi_num h,by unfold numG at h;simp only[Bool.and_eq_true,decide_eq_true_eq] at h;exact h.1.2⟩);have hN:(⟨N.toArray⟩:ByteArray).data.toList=N:=rfl;rw[hN] at D3;clear hN;obtain⟨db,hdb⟩:∃ x,x=digG B:=⟨_,rfl⟩
    obtain⟨ds,hds⟩:∃ x,x=digG S:=⟨_,rfl⟩
    rw[← hdb] at D1 HPN;rw[← hds] at D2 HPN;clear hdb hds;obtain⟨bs,ok1⟩:=db;obtain⟨ss,ok2⟩:=ds;dsimp only at *;have HD:=hid (And.intro D1 (And.intro D2 D3));clear D1 D2 D3;have br2:=HC.out.2.1.below HQ.out.2.2.2 HC.out.2.1.lt;have bt2:=HC.out.1.below HQ.out.2.2.2 HC.out.1.lt;have hO2:=HC.out.2.2.2.2.2.1.trans (HQ.out.2.2.2.mono HC.out.2.2.2.2.2.1.size);have hph:=HC.out.2.2.1.ext HQ.out.2.2.2;have hfar:=HC.out.2.2.2.2.1;have HFR:=hid (And.intro hfar HC.out.2.2.2.1);clear hfar;go_wp2_with fail;refine (HD.out.1 _).mono ?_;rintro e w3 ⟨A3,a3,rfl,hi3,hn3,hb3⟩;have bt3:=bt2.below hb3 bt2.lt;have br3:=br2.below hb3 br2.lt;have hO3:=hO2.trans (hb3.mono hO2.size);have hph3:=hph.ext hb3;have hn3t:NewA (w1.heap.size+1) A3:=hn3.mono (Nat.succ_le_of_lt bt2.lt);have hn3r:NewA (w.heap.size+1) A3:=hn3.mono (Nat.succ_le_of_lt br2.lt);clear bt2 br2 hO2 hph hn3 hb3;go_wp2_with fail;refine (HD.out.2.1 _).mono ?_;rintro e w4 ⟨A4,a4,rfl,hi4,hn4,hb4⟩;have bt4:=bt3.below hb4 bt3.lt;have br4:=br3.below hb4 br3.lt;have hO4:=hO3.trans (hb4.mono hO3.size);have hph4:=hph3.ext hb4;have hi34:=hi3.ext hb4;have hn4t:NewA (w1.heap.size+1) A4:=hn4.mono (Nat.succ_le_of_lt bt3.lt);have hn4r:NewA (w.heap.size+1) A4:=hn4.mono (Nat.succ_le_of_lt br3.lt);have HNN:=hid (And.intro hn3t (And.intro hn3r (And.intro hn4t hn4r)));clear bt3 br3 hO3 hph3 hn4 hb4 hi3 hn3t hn3r hn4t hn4r;cases ok1
    ·have HZZ:Hid (partG (partsG bd) hd=(zeroT,15)):=hid (by rw[HPN.out];rfl);have br:=br4;have r0:=br.cell_ 0 _ rfl;have r1:=br.cell_ 1 _ rfl;have r2:=br.cell_ 2 _ rfl;have r3:=br.cell_ 3 _ rfl;have g0:=br.frozen 0;have g1:=br.frozen 1;have g2:=br.frozen 2;have g3:=br.frozen 3;have HOZ:=hid (hO4);clear br;go_wp2_with fail;refine bodyPost_ret (v:=.tuple #[.agg #[.slice none 0 0,.int .i64 0,.slice none 0 0,.slice none 0 0],.int .i64 15]) (by simp[results,Tryz.results121,go_sem,r0,r1,r2,r3]) rfl ?_;show RetTot9 (partG (partsG bd) hd) w _ _;rw[HZZ.out];exact⟨none,0,none,0,none,0,rfl,TotR.zero _,below_set4 HOZ.out (Nat.le_refl _) _ _ _ _⟩

    cases ok2
    ·have HZZ:Hid (partG (partsG bd) hd=(zeroT,15)):=hid (by rw[HPN.out];rfl);have br:=br4;have r0:=br.cell_ 0 _ rfl;have r1:=br.cell_ 1 _ rfl;have r2:=br.cell_ 2 _ rfl;have r3:=br.cell_ 3 _ rfl;have g0:=br.frozen 0;have g1:=br.frozen 1;have g2:=br.frozen 2;have g3:=br.frozen 3;have HOZ:=hid (hO4);clear br;go_wp2_with fail;refine bodyPost_ret (v:=.tuple #[.agg #[.slice none 0 0,.int .i64 0,.slice none 0 0,.slice none 0 0],.int .i64 15]) (by simp[results,Tryz.results121,go_sem,r0,r1,r2,r3]) rfl ?_;show RetTot9 (partG (partsG bd) hd) w _ _;rw[HZZ.out];exact⟨none,0,none,0,none,0,rfl,TotR.zero _,below_set4 HOZ.out (Nat.le_refl _) _ _ _ _⟩

    obtain⟨kn,hkn⟩:∃ k,k=numG N:=⟨_,rfl⟩
    have W3:=fun w=>HD.out.2.2 w;rw[← hkn] at W3;have HKN:=hid hkn;have HW3:=hid W3;clear W3 hkn;go_wp2_with fail;refine (HW3.out _).mono ?_;rintro e w5 ⟨rfl,hb5⟩;have bt5:=bt4.below hb5 bt4.lt;have br5:=br4.below hb5 br4.lt;have hO5:=hO4.trans (hb5.mono hO4.size);have hph5:=hph4.ext hb5;have hi35:=hi34.ext hb5;have hi45:=hi4.ext hb5;clear bt4 br4 hO4 hph4 hi34 hi4 hb5;cases kn
    ·have HZZ:Hid (partG (partsG bd) hd=(zeroT,15)):=hid (by rw[HPN.out];unfold endG;rw[← HKN.out];rfl);have br:=br5;have r0:=br.cell_ 0 _ rfl;have r1:=br.cell_ 1 _ rfl;have r2:=br.cell_ 2 _ rfl;have r3:=br.cell_ 3 _ rfl;have g0:=br.frozen 0;have g1:=br.frozen 1;have g2:=br.frozen 2;have g3:=br.frozen 3;have HOZ:=hid (hO5);clear br;go_wp2_with fail;refine bodyPost_ret (v:=.tuple #[.agg #[.slice none 0 0,.int .i64 0,.slice none 0 0,.slice none 0 0],.int .i64 15]) (by simp[results,Tryz.results121,go_sem,r0,r1,r2,r3]) rfl ?_;show RetTot9 (partG (partsG bd) hd) w _ _;rw[HZZ.out];exact⟨none,0,none,0,none,0,rfl,TotR.zero _,below_set4 HOZ.out (Nat.le_refl _) _ _ _ _⟩

    have WA:=HAT.out HKN.out.symm;obtain⟨n,hn⟩:∃ n,n=numV N:=⟨_,rfl⟩
    have HE:Hid (partG (partsG bd) hd=if 3≤n∧n≤8∧rightT ⟨hd,n,bs,ss⟩=true then (⟨hd,n,bs,ss⟩,0) else (zeroT,5)):=hid (by rw[HPN.out];unfold endG;rw[← HKN.out,hn];rfl);rw[← hn] at WA;have W6:=fun w=>Tryz.strconv_Atoi ⟨N.toArray⟩ n (by have:=WA.2;simp[ByteArray.size];omega) WA.1 w;have H6:=hid W6;clear W6 WA hn;go_wp2_with fail;refine (H6.out _).mono ?_;rintro e w6 ⟨rfl,tb,hw6⟩;have hb6:Below w5.heap.size w5 w6:=by rw[hw6];exact below_bytes _ _ _
    clear hw6;have bt6:=bt5.below hb6 bt5.lt;have br6:=br5.below hb6 br5.lt;have hO6:=hO5.trans (hb6.mono hO5.size);have hph6:=hph5.ext hb6;have hi36:=hi35.ext hb6;have hi46:=hi45.ext hb6;clear bt5 br5 hO5 hph5 hi35 hi45 hb6;have c1:=bt6.cell_ 1 _ rfl;have f1:=bt6.frozen 1;have c2:=bt6.cell_ 2 _ rfl;have f2:=bt6.frozen 2;have c3:=bt6.cell_ 3 _ rfl;have f3:=bt6.frozen 3;go_upto_region 26 with fail
    have hlt:=K1.out.2.2.2.2.2.2.2;have bt7:Blk (((w6.setCell ⟨w1.heap.size,1,none⟩ (.int .i64 n)).setCell ⟨w1.heap.size,2,none⟩ (.slice A3 bs.length a3)).setCell ⟨w1.heap.size,3,none⟩ (.slice A4 ss.length a4)) w1.heap.size 144 #[.slice A hd.length a,.int .i64 n,.slice A3 bs.length a3,.slice A4 ss.length a4]:=((bt6.set_ 1 (.int .i64 n)).set_ 2 (.slice A3 bs.length a3)).set_ 3 (.slice A4 ss.length a4);have br7:Blk (((w6.setCell ⟨w1.heap.size,1,none⟩ (.int .i64 n)).setCell ⟨w1.heap.size,2,none⟩ (.slice A3 bs.length a3)).setCell ⟨w1.heap.size,3,none⟩ (.slice A4 ss.length a4)) w.heap.size 144 #[.slice none 0 0,.int .i64 0,.slice none 0 0,.slice none 0 0]:=((br6.far (by simp;omega) _).far (by simp;omega) _).far (by simp;omega) _;have hO7:Below w.heap.size w (((w6.setCell ⟨w1.heap.size,1,none⟩ (.int .i64 n)).setCell ⟨w1.heap.size,2,none⟩ (.slice A3 bs.length a3)).setCell ⟨w1.heap.size,3,none⟩ (.slice A4 ss.length a4)):=((hO6.setCell (by simp;omega) _).setCell (by simp;omega) _).setCell (by simp;omega) _;have hph7:Pts (((w6.setCell ⟨w1.heap.size,1,none⟩ (.int .i64 n)).setCell ⟨w1.heap.size,2,none⟩ (.slice A3 bs.length a3)).setCell ⟨w1.heap.size,3,none⟩ (.slice A4 ss.length a4)) A hd:=HFR.out.1 _ _ _ (HFR.out.1 _ _ _ (HFR.out.1 _ _ _ hph6));have hi37:Ints (((w6.setCell ⟨w1.heap.size,1,none⟩ (.int .i64 n)).setCell ⟨w1.heap.size,2,none⟩ (.slice A3 bs.length a3)).setCell ⟨w1.heap.size,3,none⟩ (.slice A4 ss.length a4)) A3 bs:=((hi36.set_new HNN.out.1 (by simp) _).set_new HNN.out.1 (by simp) _).set_new HNN.out.1 (by simp) _;have hi47:Ints (((w6.setCell ⟨w1.heap.size,1,none⟩ (.int .i64 n)).setCell ⟨w1.heap.size,2,none⟩ (.slice A3 bs.length a3)).setCell ⟨w1.heap.size,3,none⟩ (.slice A4 ss.length a4)) A4 ss:=((hi46.set_new HNN.out.2.2.1 (by simp) _).set_new HNN.out.2.2.1 (by simp) _).set_new HNN.out.2.2.1 (by simp) _;clear c1 f1 c2 f2 c3 f3 bt6 br6 hO6 hph6 hi36 hi46 hlt;generalize (((w6.setCell ⟨w1.heap.size,1,none⟩ (.int .i64 n)).setCell ⟨w1.heap.size,2,none⟩ (.slice A3 bs.length a3)).setCell ⟨w1.heap.size,3,none⟩ (.slice A4 ss.length a4))=w7 at *;have HT:Hid (TotR w7 A A3 A4 ⟨hd,n,bs,ss⟩):=hid ⟨hph7,hi37,hi47⟩;clear hph7 hi37 hi47;have t0:=bt7.cell_ 0 _ rfl;have t1:=bt7.cell_ 1 _ rfl;have t2:=bt7.cell_ 2 _ rfl;have t3:=bt7.cell_ 3 _ rfl;by_cases k3:n < 3
    ·have d3:decide (n < 3)=true:=decide_eq_true k3;have HK:=hid k3;clear k3;have HZZ:Hid (partG (partsG bd) hd=(zeroT,5)):=hid (by rw[HE.out,if_neg];rintro⟨h,_⟩;have:=HK.out;omega);have br:=br7;have r0:=br.cell_ 0 _ rfl;have r1:=br.cell_ 1 _ rfl;have r2:=br.cell_ 2 _ rfl;have r3:=br.cell_ 3 _ rfl;have g0:=br.frozen 0;have g1:=br.frozen 1;have g2:=br.frozen 2;have g3:=br.frozen 3;have HOZ:=hid (hO7);clear br;go_wp2_with fail;refine bodyPost_ret (v:=.tuple #[.agg #[.slice none 0 0,.int .i64 0,.slice none 0 0,.slice none 0 0],.int .i64 5]) (by simp[results,Tryz.results121,go_sem,r0,r1,r2,r3]) rfl ?_;show RetTot9 (partG (partsG bd) hd) w _ _;rw[HZZ.out];exact⟨none,0,none,0,none,0,rfl,TotR.zero _,below_set4 HOZ.out (Nat.le_refl _) _ _ _ _⟩

    have d3:decide (n < 3)=false:=decide_eq_false k3;by_cases k8:8 < n
    ·have d8:decide (8 < n)=true:=decide_eq_true k8;have HK:=hid k8;clear k3 k8;have HZZ:Hid (partG (partsG bd) hd=(zeroT,5)):=hid (by rw[HE.out,if_neg];rintro⟨_,h,_⟩;have:=HK.out;omega);have br:=br7;have r0:=br.cell_ 0 _ rfl;have r1:=br.cell_ 1 _ rfl;have r2:=br.cell_ 2 _ rfl;have r3:=br.cell_ 3 _ rfl;have g0:=br.frozen 0;have g1:=br.frozen 1;have g2:=br.frozen 2;have g3:=br.frozen 3;have HOZ:=hid (hO7);clear br;go_wp2_with fail;refine bodyPost_ret (v:=.tuple #[.agg #[.slice none 0 0,.int .i64 0,.slice none 0 0,.slice none 0 0],.int .i64 5]) (by simp[results,Tryz.results121,go_sem,r0,r1,r2,r3]) rfl ?_;show RetTot9 (partG (partsG bd) hd) w _ _;rw[HZZ.out];exact⟨none,0,none,0,none,0,rfl,TotR.zero _,below_set4 HOZ.out (Nat.le_refl _) _ _ _ _⟩

    have d8:decide (8 < n)=false:=decide_eq_false k8;have HR:=right_anyT A A3 A4 a a3 a4 ⟨hd,n,bs,ss⟩ w7 HT.out;unfold totV at HR;obtain⟨kr,hkr⟩:∃ k,k=rightT ⟨hd,n,bs,ss⟩:=⟨_,rfl⟩
    rw[← hkr] at HR;have HKR:Hid ((3≤n∧n≤8)∧kr=rightT ⟨hd,n,bs,ss⟩):=hid ⟨by omega,hkr⟩;have HR2:=hid HR;clear HR hkr k3 k8;go_wp2_with fail;refine HR2.out.mono ?_;rintro e w8 ⟨rfl,hb8⟩;have bt8:=bt7.below hb8 bt7.lt;have br8:=br7.below hb8 br7.lt;have hO8:=hO7.trans (hb8.mono hO7.size);have HT8:=hid (HT.out.ext hb8);clear bt7 br7 hO7 hb8 HT t0 t1 t2 t3;have t0:=bt8.cell_ 0 _ rfl;have t1:=bt8.cell_ 1 _ rfl;have t2:=bt8.cell_ 2 _ rfl;have t3:=bt8.cell_ 3 _ rfl;cases kr
    ·have HZZ:Hid (partG (partsG bd) hd=(zeroT,5)):=hid (by rw[HE.out,if_neg];rintro⟨_,_,h⟩;rw[← HKR.out.2] at h;cases h);have br:=br8;have r0:=br.cell_ 0 _ rfl;have r1:=br.cell_ 1 _ rfl;have r2:=br.cell_ 2 _ rfl;have r3:=br.cell_ 3 _ rfl;have g0:=br.frozen 0;have g1:=br.frozen 1;have g2:=br.frozen 2;have g3:=br.frozen 3;have HOZ:=hid (hO8);clear br;go_wp2_with fail;refine bodyPost_ret (v:=.tuple #[.agg #[.slice none 0 0,.int .i64 0,.slice none 0 0,.slice none 0 0],.int .i64 5]) (by simp[results,Tryz.results121,go_sem,r0,r1,r2,r3]) rfl ?_;show RetTot9 (partG (partsG bd) hd) w _ _;rw[HZZ.out];exact⟨none,0,none,0,none,0,rfl,TotR.zero _,below_set4 HOZ.out (Nat.le_refl _) _ _ _ _⟩

    have HZZ:Hid (partG (partsG bd) hd=(⟨hd,n,bs,ss⟩,0)):=hid (by rw[HE.out,if_pos ⟨HKR.out.1.1,HKR.out.1.2,HKR.out.2.symm⟩]);have r0:=br8.cell_ 0 _ rfl;have r1:=br8.cell_ 1 _ rfl;have r2:=br8.cell_ 2 _ rfl;have r3:=br8.cell_ 3 _ rfl;have g0:=br8.frozen 0;have g1:=br8.frozen 1;have g2:=br8.frozen 2;have g3:=br8.frozen 3;have HOZ:=hid hO8;have HNH:=hid HFR.out.2;clear br8 bt8 hO8;go_wp2_with fail;refine bodyPost_ret (v:=.tuple #[.agg #[.slice A hd.length a,.int .i64 n,.slice A3 bs.length a3,.slice A4 ss.length a4],.int .i64 0]) (by simp[results,Tryz.results121,go_sem,r0,r1,r2,r3]) rfl ?_;show RetTot9 (partG (partsG bd) hd) w _ _;rw[HZZ.out];exact⟨A,a,A3,a3,A4,a4,rfl,HT8.out.set49 HNH.out HNN.out.2.1 HNN.out.2.2.2 _ _ _ _,below_set4 HOZ.out (Nat.le_refl _) _ _ _ _⟩
  ·have HPN:Hid (partG (partsG bd) hd=(zeroT,15)):=hid (by rw[parts_none k1];rfl);have W1:=split_any bd wc HC.out.2.2.2.2.2.2 (by have:=HL.out;omega);obtain⟨n,hn⟩:∃ n,n=bd.count 47+1:=⟨_,rfl⟩
   rw[← hn] at W1;have d1:((n:Int) != 3)=true:=by rw[hn,bne_iff_ne];omega
   have HW:=hid W1;clear W1 hn k1;go_wp2_with fail;refine HW.out.mono ?_;rintro e w2 ⟨rfl,o,rfl⟩;have br:=HC.out.2.1.alloc o;have r0:=br.cell_ 0 _ rfl;have r1:=br.cell_ 1 _ rfl;have r2:=br.cell_ 2 _ rfl;have r3:=br.cell_ 3 _ rfl;have g0:=br.frozen 0;have g1:=br.frozen 1;have g2:=br.frozen 2;have g3:=br.frozen 3;have HOZ:=hid (HC.out.2.2.2.2.2.1.alloc HC.out.2.2.2.2.2.1.size o);clear br;go_wp2_with fail;refine bodyPost_ret (v:=.tuple #[.agg #[.slice none 0 0,.int .i64 0,.slice none 0 0,.slice none 0 0],.int .i64 15]) (by simp[results,Tryz.results121,go_sem,r0,r1,r2,r3]) rfl ?_;show RetTot9 (partG (partsG bd) hd) w _ _;rw[HPN.out];exact⟨none,0,none,0,none,0,rfl,TotR.zero _,below_set4 HOZ.out (Nat.le_refl _) _ _ _ _⟩

theorem gparse_any (s:ByteArray)(w:World)(hg:Glob9 w)(hs:s.data.toList.length≤2147483648) :
  Calls Tryz.prog 121 #[.string s] w (RetTot9 (parseG s.data.toList) w):=parseG_any s.data.toList w hg hs
end Go.Proofs.YtcfelnhmifkelaaGreatDoor
namespace Go.Proofs.YtcfelnhmifkelaaGreatDoor
set_option maxRecDepth 100000
open Go.RowKit
set_option linter.unusedVariables false
set_option linter.unusedSimpArgs false

def strip (t r:List UInt8):Option (List UInt8):=if r.take t.length=t then some (r.drop t.length) else none
theorem strip_app9 (t r:List UInt8):strip t (t ++ r)=some r:=by simp[strip]
theorem strip_a (r:List UInt8):strip [47] (47 :: r)=some r:=strip_app9 [47] r
theorem strip_b (r:List UInt8):strip [66] (66 :: r)=some r:=strip_app9 [66] r
theorem strip_c (r:List UInt8):strip [47,83] (47 :: 83 :: r)=some r:=strip_app9 [47,83] r
theorem strip_d (r:List UInt8):strip [47,67] (47 :: 67 :: r)=some r:=strip_app9 [47,67] r
theorem strip_some {t r q:List UInt8}(h:strip t r=some q):r=t ++ q:=by
 unfold strip at h
 split at h
 ·rename_i hc;have h2:=Option.some.inj h;rw[← h2]
  conv=>lhs;rw[← List.take_append_drop t.length r,hc]
 ·cases h
def digs (r:List UInt8):List Int:=digAsc9 (-1) r
def numS (b s:List Int)(r:List UInt8):TotL × Int:=
 if (digRun9 r).length=0∨3 < (digRun9 r).length∨r.getD 0 0=48 then (zeroT,15) else tail9 b s (numV (digRun9 r)) (r.drop (digRun9 r).length)
def parseS2 (l:List UInt8):TotL × Int:=
 match strip [47] (l.drop (digs l).length) with
 | none=>(zeroT,15)
 | some r=>match strip [47] (r.drop (digs r).length) with
  | none=>(zeroT,15)
  | some q=>numS (digs r) (digs l) q
def parseS1 (b:List UInt8):TotL × Int:=
 match strip [47,83] (b.drop (digs b).length) with
 | none=>(zeroT,15)
 | some r=>match strip [47,67] (r.drop (digs r).length) with
  | none=>(zeroT,15)
  | some q=>numS (digs b) (digs r) q
def parseS (l:List UInt8):TotL × Int:=
 match strip [66] l with
 | none=>parseS2 l
 | some b=>parseS1 b
theorem after_strip9 (l t:List UInt8)(p:Nat)(hp:p≤l.length) :
  (strip t (l.drop p)=none∧afterL9 l p t = -1)∨(∃ r,strip t (l.drop p)=some r∧afterL9 l p t=((p+t.length:Nat):Int)∧l.drop (p+t.length)=r∧p+t.length≤l.length):=by
 by_cases h:(l.drop p).take t.length=t
 ·right
  have hl:p+t.length≤l.length:=by
   have h1:=congrArg List.length h;rw[List.length_take,List.length_drop] at h1;omega
  refine⟨_,by unfold strip;rw[if_pos h],?_,by rw[List.drop_drop],hl⟩;unfold afterL9;rw[if_pos ⟨by omega,by omega,by rwa [Int.toNat_natCast]⟩];omega
 ·left
  refine⟨by unfold strip;rw[if_neg h],?_⟩;unfold afterL9;rw[if_neg (fun hh=>h (by have:=hh.2.2;rwa [Int.toNat_natCast] at this))]
theorem dig_at (l:List UInt8)(p:Nat):digAt l p=digs (l.drop p):=by unfold digAt digs;rw[Int.toNat_natCast]
theorem end_at (l:List UInt8)(p:Nat):endAt l p=((p+(digs (l.drop p)).length:Nat):Int):=by unfold endAt;rw[dig_at];omega
theorem end_ok (l:List UInt8){p:Nat}(h:p≤l.length):p+(digs (l.drop p)).length≤l.length:=by
 have:=digAsc_le9 (l.drop p) (-1);rw[List.length_drop] at this;unfold digs;omega
theorem num_strip (l:List UInt8)(b s:List Int)(q:Nat)(h:q≤l.length) :
  (if ((q:Nat):Int) < 0 then (zeroT,15) else if (numR l ((q:Nat):Int).toNat).2 < 0 then (zeroT,15) else tail9 b s (numR l ((q:Nat):Int).toNat).1 (l.drop (numR l ((q:Nat):Int).toNat).2.toNat))=numS b s (l.drop q):=by
 rw[if_neg (by omega),Int.toNat_natCast];have hg:(l.drop q).getD 0 0=l.getD q 0:=by simp[List.getD]
 unfold numS numR;rw[hg];by_cases h1:(digRun9 (l.drop q)).length=0∨3 < (digRun9 (l.drop q)).length∨l.getD q 0=48
 ·rw[if_pos h1,if_pos h1,if_pos (by decide)]
 ·rw[if_neg h1,if_neg h1,if_neg (by show ¬ ((q:Int)+(digRun9 (l.drop q)).length) < 0;omega)];show tail9 b s _ (l.drop ((q:Int)+(digRun9 (l.drop q)).length).toNat)=_;rw[show ((q:Int)+(digRun9 (l.drop q)).length).toNat=q+(digRun9 (l.drop q)).length by omega,List.drop_drop]
theorem cnt_strip (l:List UInt8):((cntR l).2.2 = -1∧parseS l=(zeroT,15))∨∃ (b s:List Int)(q:Nat),cntR l=(b,s,(q:Int))∧q≤l.length∧parseS l=numS b s (l.drop q):=by
 unfold cntR parseS;rcases after_strip9 l [66] 0 (Nat.zero_le _) with ⟨h1,h2⟩ | ⟨r,h1,h2,h3,h4⟩
 ·have h2':afterL9 l 0 [66] = -1:=h2;rw[List.drop_zero] at h1;have c0:afterL9 l 0 [66] < 0:=by rw[h2'];decide
  rw[h1,if_pos c0];have e0:endAt l 0=((0+(digs l).length:Nat):Int):=by have:=end_at l 0;rwa [List.drop_zero] at this
  have d0:digAt l 0=digs l:=by have:=dig_at l 0;rwa [List.drop_zero] at this
  have k0:0+(digs l).length≤l.length:=by have:=end_ok l (Nat.zero_le _);rwa [List.drop_zero] at this
  rw[e0,d0];show _∨∃ b s q,_∧_∧parseS2 l=_;show (_∧parseS2 l=_)∨_;unfold parseS2;rcases after_strip9 l [47] (0+(digs l).length) k0 with ⟨g1,g2⟩ | ⟨r,g1,g2,g3,g4⟩
  ·left
   rw[Nat.zero_add] at g1;rw[g1,g2];exact⟨rfl,rfl⟩
  ·have c1:¬ ((0+(digs l).length + [(47:UInt8)].length:Nat):Int) < 0:=by omega
   rw[g2,if_neg c1,dig_at,end_at,g3];have k1:=end_ok l g4;rw[g3] at k1;rw[Nat.zero_add] at g1;rw[g1];rcases after_strip9 l [47] (0+(digs l).length + [(47:UInt8)].length+(digs r).length) k1 with ⟨f1,f2⟩ | ⟨q,f1,f2,f3,f4⟩
   ·left
    rw[← List.drop_drop,g3] at f1;refine⟨f2,?_⟩;show (match strip [47] (r.drop (digs r).length) with
     | none=>(zeroT,15)
     | some q=>numS (digs r) (digs l) q)=_
    rw[f1]
   ·right
    rw[← List.drop_drop,g3] at f1;refine⟨_,_,_,by rw[f2],f4,?_⟩;show (match strip [47] (r.drop (digs r).length) with
     | none=>(zeroT,15)
     | some q=>numS (digs r) (digs l) q)=_
    rw[f1,f3]
 ·have h2':afterL9 l 0 [66]=((0 + [(66:UInt8)].length:Nat):Int):=h2;rw[List.drop_zero] at h1;have c0:¬ afterL9 l 0 [66] < 0:=by rw[h2'];omega
  rw[h1,if_neg c0,h2',end_at,dig_at,h3];have k0:=end_ok l h4;rw[h3] at k0;show (_∧parseS1 r=_)∨∃ b s q,_∧_∧parseS1 r=_;unfold parseS1;rcases after_strip9 l [47,83] (0 + [(66:UInt8)].length+(digs r).length) k0 with ⟨g1,g2⟩ | ⟨r2,g1,g2,g3,g4⟩
  ·left
   rw[← List.drop_drop,h3] at g1;rw[g1,g2];exact⟨rfl,rfl⟩
  ·have c1:¬ ((0 + [(66:UInt8)].length+(digs r).length + [(47:UInt8),83].length:Nat):Int) < 0:=by omega
   rw[g2,if_neg c1,dig_at,end_at,g3];have k1:=end_ok l g4;rw[g3] at k1;rw[← List.drop_drop,h3] at g1;rw[g1];rcases after_strip9 l [47,67] (0 + [(66:UInt8)].length+(digs r).length + [(47:UInt8),83].length+(digs r2).length) k1 with ⟨f1,f2⟩ | ⟨q,f1,f2,f3,f4⟩
   ·left
    rw[← List.drop_drop,g3] at f1;refine⟨f2,?_⟩;show (match strip [47,67] (r2.drop (digs r2).length) with
     | none=>(zeroT,15)
     | some q=>numS (digs r) (digs r2) q)=_
    rw[f1]
   ·right
    rw[← List.drop_drop,g3] at f1;refine⟨_,_,_,by rw[f2],f4,?_⟩;show (match strip [47,67] (r2.drop (digs r2).length) with
     | none=>(zeroT,15)
     | some q=>numS (digs r) (digs r2) q)=_
    rw[f1,f3]
theorem rparse_strip (l:List UInt8):rparseL9 l=parseS l:=by
 unfold rparseL9;rcases cnt_strip l with ⟨h1,h2⟩ | ⟨b,s,q,h1,h2,h3⟩
 ·rw[h1,h2];rfl
 ·rw[h1,h3];exact num_strip l b s q h2

structure Gram (l B S N y:List UInt8):Prop where
 hb:(digs B).length=B.length
 hs:(digs S).length=S.length
 hn:numG N=true
 hy:y=[]∨y=[86]∨y=[72]
 form:l=S ++ 47 :: (B ++ 47 :: (N ++ y))∨l=66 :: (B ++ 47 :: 83 :: (S ++ 47 :: 67 :: (N ++ y)))
def hoodY (y:List UInt8):List (Int × Int):=if y=[] then mooreL 1 else if y=[86] then neumL 1 else hexL
theorem digAsc_app:∀ (B:List UInt8)(last:Int)(c:UInt8)(r:List UInt8),(digAsc9 last B).length=B.length→isDig9 c=false→digAsc9 last (B ++ c :: r)=digAsc9 last B
 | [],last,c,r,_,hc=>by simp[digAsc9,hc]
 | b :: B,last,c,r,h,hc=>by
  rw[List.cons_append];unfold digAsc9 at h ⊢
  split
  ·rename_i hd;rw[if_pos hd] at h;rw[digAsc_app B _ c r (by simpa using h) hc]
  ·rfl
theorem digAsc_dig:∀ (B:List UInt8)(last:Int),(digAsc9 last B).length=B.length→∀ c ∈ B,isDig9 c=true
 | [],last,_,c,hc=>by cases hc
 | b :: B,last,h,c,hc=>by
  unfold digAsc9 at h
  split at h
  ·rename_i hd;simp only[Bool.and_eq_true] at hd;rcases List.mem_cons.1 hc with rfl | hc
   ·exact hd.1
   ·exact digAsc_dig B _ (by simpa using h) c hc
  ·simp at h
theorem digAsc_take9:∀ (B:List UInt8)(last:Int),digAsc9 last (B.take (digAsc9 last B).length)=digAsc9 last B
 | [],last=>by simp[digAsc9]
 | b :: B,last=>by
  by_cases hd:(isDig9 b && decide (last < digOf9 b))=true
  ·have e:digAsc9 last (b :: B)=digOf9 b :: digAsc9 (digOf9 b) B:=by rw[digAsc9,if_pos hd]
   rw[e,List.length_cons,List.take_succ_cons,digAsc9,if_pos hd,digAsc_take9 B]
  ·have e:digAsc9 last (b :: B)=[]:=by rw[digAsc9,if_neg hd]
   rw[e];rfl
theorem digs_split (r:List UInt8):∃ B,r=B ++ r.drop (digs r).length∧digs B=digs r∧(digs B).length=B.length:=by
 refine⟨r.take (digs r).length,(List.take_append_drop _ _).symm,digAsc_take9 r (-1),?_⟩;have h1:digs (r.take (digs r).length)=digs r:=digAsc_take9 r (-1);rw[h1,List.length_take];have:=digAsc_le9 r (-1);unfold digs at *;omega
theorem dig47:isDig9 47=false:=by decide
theorem digs_app {B:List UInt8}(h:(digs B).length=B.length) (r:List UInt8):digs (B ++ 47 :: r)=digs B:=digAsc_app B (-1) 47 r h dig47
theorem digRun_app:∀ (N y:List UInt8),N.all isDig9=true→(y=[]∨∃ c r,y=c :: r∧isDig9 c=false)→digRun9 (N ++ y)=N
 | [],y,_,hy=>by
  rcases hy with rfl | ⟨c,r,rfl,hc⟩
  ·rfl
  ·simp[digRun9,hc]
 | b :: N,y,h,hy=>by
  simp only[List.all_cons,Bool.and_eq_true] at h;rw[List.cons_append,digRun9,if_pos h.1,digRun_app N y h.2 hy]
theorem digRun_split9:∀ (r:List UInt8),r=digRun9 r ++ r.drop (digRun9 r).length∧(digRun9 r).all isDig9=true
 | []=>⟨rfl,rfl⟩
 | c :: r=>by
  by_cases hc:isDig9 c=true
  ·have e:digRun9 (c :: r)=c :: digRun9 r:=by rw[digRun9,if_pos hc]
   have ih:=digRun_split9 r;rw[e];refine⟨?_,by simp[hc,ih.2]⟩;rw[List.length_cons,List.drop_succ_cons,List.cons_append,← ih.1]
  ·have e:digRun9 (c :: r)=[]:=by rw[digRun9,if_neg hc]
   rw[e];exact⟨rfl,rfl⟩
theorem yhead {y:List UInt8}(h:y=[]∨y=[86]∨y=[72]):y=[]∨∃ c r,y=c :: r∧isDig9 c=false:=by
 rcases h with h | h | h
 ·exact .inl h
 ·exact .inr ⟨86,[],h,by decide⟩
 ·exact .inr ⟨72,[],h,by decide⟩
theorem tail_hood {b s:List Int}{n:Int}{y:List UInt8}(h:y=[]∨y=[86]∨y=[72]):tail9 b s n y=fin9 b s n (hoodY y):=by
 rcases h with rfl | rfl | rfl <;> rfl
theorem numS_gram {N y:List UInt8}(b s:List Int)(hn:numG N=true)(hy:y=[]∨y=[86]∨y=[72]):numS b s (N ++ y)=fin9 b s (numV N) (hoodY y):=by
 have hn':=hn;unfold numG at hn';simp only[Bool.and_eq_true,decide_eq_true_eq] at hn';obtain⟨⟨⟨h1,h2⟩,h3⟩,h4⟩:=hn';have e:=digRun_app N y h1 (yhead hy);unfold numS;rw[e];have hg:(N ++ y).getD 0 0=N.getD 0 0:=by
  cases N with
  | nil=>simp at h2
  | cons a t=>rfl
 rw[hg,if_neg (by rintro (h | h | h) <;> first | omega | exact h4 h),List.drop_left,tail_hood hy]
theorem strip66 {S:List UInt8}(h:(digs S).length=S.length) (r:List UInt8):strip [66] (S ++ 47 :: r)=none:=by
 unfold strip;rw[if_neg];cases S with
 | nil=>simp
 | cons c t=>
  have:=digAsc_dig (c :: t) (-1) h c (by simp);intro hc;simp at hc;subst hc;exact absurd this (by decide)
theorem gram_ref {l B S N y:List UInt8}(g:Gram l B S N y):parseS l=fin9 (digs B) (digs S) (numV N) (hoodY y):=by
 rcases g.form with h | h
 ·subst h;unfold parseS;rw[strip66 g.hs];unfold parseS2;rw[digs_app g.hs,g.hs,List.drop_left,strip_a];show (match strip [47] ((B ++ 47 :: (N ++ y)).drop (digs (B ++ 47 :: (N ++ y))).length) with
   | none=>(zeroT,15)
   | some q=>numS (digs (B ++ 47 :: (N ++ y))) (digs S) q)=_
  rw[digs_app g.hb,g.hb,List.drop_left,strip_a];exact numS_gram _ _ g.hn g.hy
 ·subst h;unfold parseS;rw[strip_b];show parseS1 (B ++ 47 :: 83 :: (S ++ 47 :: 67 :: (N ++ y)))=_;unfold parseS1;rw[digs_app g.hb,g.hb,List.drop_left,strip_c];show (match strip [47,67] ((S ++ 47 :: 67 :: (N ++ y)).drop (digs (S ++ 47 :: 67 :: (N ++ y))).length) with
   | none=>(zeroT,15)
   | some q=>numS (digs B) (digs (S ++ 47 :: 67 :: (N ++ y))) q)=_
  rw[digs_app g.hs,g.hs,List.drop_left,strip_d];exact numS_gram _ _ g.hn g.hy
theorem numS_ex (b s:List Int)(r:List UInt8):numS b s r=(zeroT,15)∨∃ N y,r=N ++ y∧numG N=true∧(y=[]∨y=[86]∨y=[72]):=by
 unfold numS;by_cases h:(digRun9 r).length=0∨3 < (digRun9 r).length∨r.getD 0 0=48
 ·rw[if_pos h];exact .inl rfl
 ·rw[if_neg h];obtain⟨e1,e2⟩:=digRun_split9 r;have hn:numG (digRun9 r)=true:=by
   unfold numG;simp only[Bool.and_eq_true,decide_eq_true_eq];refine⟨⟨⟨e2,by omega⟩,by omega⟩,?_⟩;have hg:(digRun9 r).getD 0 0=r.getD 0 0:=by
    have e3:r.getD 0 0=(digRun9 r ++ r.drop (digRun9 r).length).getD 0 0:=congrArg (fun x=>x.getD 0 0) e1;rw[e3];have hl:0 < (digRun9 r).length:=by omega
    generalize r.drop (digRun9 r).length=q;generalize digRun9 r=d at hl ⊢;cases d with
    | nil=>simp at hl
    | cons a t=>simp[List.getD]
   intro hh;exact h (.inr (.inr (by rw[← hg];exact hh)))
  by_cases y1:r.drop (digRun9 r).length=[]
  ·exact .inr ⟨_,_,e1,hn,.inl y1⟩
  by_cases y2:r.drop (digRun9 r).length=[86]
  ·exact .inr ⟨_,_,e1,hn,.inr (.inl y2)⟩
  by_cases y3:r.drop (digRun9 r).length=[72]
  ·exact .inr ⟨_,_,e1,hn,.inr (.inr y3)⟩
  left
  unfold tail9;rw[if_neg y1,if_neg y2,if_neg y3]
theorem ref_gram (l:List UInt8):parseS l=(zeroT,15)∨∃ B S N y,Gram l B S N y:=by
 unfold parseS;cases h1:strip [66] l with
 | none=>
  show parseS2 l=_∨_;unfold parseS2;cases h2:strip [47] (l.drop (digs l).length) with
  | none=>exact .inl rfl
  | some r=>
   show (match strip [47] (r.drop (digs r).length) with
    | none=>(zeroT,15)
    | some q=>numS (digs r) (digs l) q)=_∨_
   cases h3:strip [47] (r.drop (digs r).length) with
   | none=>exact .inl rfl
   | some q=>
    show numS (digs r) (digs l) q=_∨_;rcases numS_ex (digs r) (digs l) q with h | ⟨N,y,e,hn,hy⟩
    ·exact .inl h
    ·obtain⟨S,s1,s2,s3⟩:=digs_split l;obtain⟨B,b1,b2,b3⟩:=digs_split r;refine .inr ⟨B,S,N,y,b3,s3,hn,hy,.inl ?_⟩;rw[strip_some h2] at s1;rw[strip_some h3,e] at b1;rw[s1,b1];rfl
 | some b=>
  show parseS1 b=_∨_;unfold parseS1;cases h2:strip [47,83] (b.drop (digs b).length) with
  | none=>exact .inl rfl
  | some r=>
   show (match strip [47,67] (r.drop (digs r).length) with
    | none=>(zeroT,15)
    | some q=>numS (digs b) (digs r) q)=_∨_
   cases h3:strip [47,67] (r.drop (digs r).length) with
   | none=>exact .inl rfl
   | some q=>
    show numS (digs b) (digs r) q=_∨_;rcases numS_ex (digs b) (digs r) q with h | ⟨N,y,e,hn,hy⟩
    ·exact .inl h
    ·obtain⟨B,s1,s2,s3⟩:=digs_split b;obtain⟨S,b1,b2,b3⟩:=digs_split r;refine .inr ⟨B,S,N,y,s3,b3,hn,hy,.inr ?_⟩;have h1':=strip_some h1;rw[strip_some h2] at s1;rw[strip_some h3,e] at b1;rw[h1',s1,b1];rfl

/-! the code's own parser -/
theorem no47 {B:List UInt8}(h:∀ c ∈ B,isDig9 c=true):(47:UInt8) ∉ B:=fun hm=>absurd (h 47 hm) (by decide)
theorem num_all {N:List UInt8}(h:numG N=true):N.all isDig9=true∧1≤N.length:=by
 unfold numG at h;simp only[Bool.and_eq_true,decide_eq_true_eq] at h;exact⟨h.1.1.1,h.1.1.2⟩
theorem suffix_end (l:List UInt8)(c d:UInt8):Lib.hasSuffix (l ++ [c]) [d]=decide (c=d):=by
 unfold Lib.hasSuffix;rw[Bool.eq_iff_iff,List.isSuffixOf_iff_suffix,decide_eq_true_eq];constructor
 ·rintro⟨t,ht⟩;have:=List.append_inj_right' ht (by simp);simpa using this.symm
 ·rintro rfl;exact⟨l,rfl⟩
theorem trim_end (l:List UInt8)(c:UInt8):Lib.trimSuffix (l ++ [c]) [c]=l:=by
 unfold Lib.trimSuffix;rw[if_pos (by rw[suffix_end];simp)]
 simp
theorem hood_gram {m N y:List UInt8}(hn:numG N=true)(hy:y=[]∨y=[86]∨y=[72]):hoodP9 (m ++ (N ++ y))=(m ++ N,hoodY y):=by
 obtain⟨h1,h2⟩:=num_all hn;unfold hoodP9 tailV9 tailH9 cutV9 cutH9;rw[← List.append_assoc];rcases hy with rfl | rfl | rfl
 ·rw[List.append_nil];rcases List.eq_nil_or_concat N with h0 | ⟨p,c,h0⟩
  ·subst h0;simp at h2
  ·rw[List.concat_eq_append] at h0;have hc:isDig9 c=true:=by
    rw[List.all_eq_true] at h1;exact h1 c (by rw[h0];simp)
   rw[h0,← List.append_assoc,suffix_end,suffix_end];have c1:c≠86:=by intro h;subst h;exact absurd hc (by decide)
   have c2:c≠72:=by intro h;subst h;exact absurd hc (by decide)
   rw[decide_eq_false c1,decide_eq_false c2];rfl
 ·rw[suffix_end,trim_end];rfl
 ·rw[suffix_end,suffix_end,trim_end];rfl
theorem hood_ex (l:List UInt8):∃ y,(y=[]∨y=[86]∨y=[72])∧l=(hoodP9 l).1 ++ y∧(hoodP9 l).2=hoodY y:=by
 unfold hoodP9;have key:∀ d:UInt8,Lib.hasSuffix l [d]=true→l=Lib.trimSuffix l [d] ++ [d]:=by
  intro d hd;have hd':=hd;unfold Lib.hasSuffix at hd;rw[List.isSuffixOf_iff_suffix] at hd;obtain⟨t,ht⟩:=hd;rw[← ht,trim_end]
 cases h1:tailV9 l
 ·cases h2:tailH9 l
  ·exact⟨[],.inl rfl,by simp,rfl⟩
  ·exact⟨[72],.inr (.inr rfl),key 72 h2,rfl⟩
 ·exact⟨[86],.inr (.inl rfl),key 86 h1,rfl⟩
def finG (b s:List Int)(n:Int)(h:List (Int × Int)):TotL × Int:=
 if 3≤n∧n≤8∧rightT ⟨h,n,b,s⟩=true then (⟨h,n,b,s⟩,0) else (zeroT,5)
theorem digG_yes {B:List UInt8}(h:(digs B).length=B.length):digG B=(digs B,true):=by
 unfold digG;rw[if_pos (show (digAsc9 (-1) B).length=B.length from h)];rfl
theorem digG_ok {B:List UInt8}(h:(digG B).2=true):(digs B).length=B.length:=by
 unfold digG at h
 split at h
 ·assumption
 ·cases h
theorem endG_gram {B S N:List UInt8}(hb:(digs B).length=B.length) (hs:(digs S).length=S.length) (hn:numG N=true)(h:List (Int × Int)):endG (digG B) (digG S) N h=finG (digs B) (digs S) (numV N) h:=by
 rw[digG_yes hb,digG_yes hs];unfold endG;rw[hn];rfl
theorem endG_ex (B S N:List UInt8)(h:List (Int × Int)):endG (digG B) (digG S) N h=(zeroT,15)∨((digs B).length=B.length∧(digs S).length=S.length∧numG N=true):=by
 unfold endG;cases h1:(digG B).2
 ·exact .inl rfl
 cases h2:(digG S).2
 ·exact .inl rfl
 cases h3:numG N
 ·exact .inl rfl
 exact .inr ⟨digG_ok h1,digG_ok h2,rfl⟩
theorem prefix_cons (c:UInt8)(l:List UInt8):Lib.hasPrefix (c :: l) [c]=true∧Lib.trimPrefix (c :: l) [c]=l:=by
 have h:Lib.hasPrefix (c :: l) [c]=true:=by simp[Lib.hasPrefix]
 exact⟨h,by unfold Lib.trimPrefix;rw[if_pos h];rfl⟩
theorem prefix_ex {c:UInt8}{l:List UInt8}(h:Lib.hasPrefix l [c]=true):l=c :: Lib.trimPrefix l [c]:=by
 unfold Lib.trimPrefix;rw[if_pos h];cases l with
 | nil=>simp[Lib.hasPrefix] at h
 | cons x t=>
  simp[Lib.hasPrefix] at h;subst h;rfl
theorem gram_code {l B S N y:List UInt8}(g:Gram l B S N y):parseG l=finG (digs B) (digs S) (numV N) (hoodY y):=by
 have nB:=no47 (digAsc_dig B (-1) g.hb);have nS:=no47 (digAsc_dig S (-1) g.hs);have nN:(47:UInt8) ∉ N:=no47 (by have:=(num_all g.hn).1;rwa [List.all_eq_true] at this);rw[← endG_gram g.hb g.hs g.hn];rcases g.form with h | h
 ·have e:hoodP9 l=(S ++ 47 :: (B ++ 47 :: N),hoodY y):=by
   have:=hood_gram (m:=S ++ 47 :: (B ++ [47])) g.hn g.hy;rw[h];simpa using this
  unfold parseG;rw[e,parts_three nS nB nN];have hp:startB9 (S ++ 47 :: (B ++ 47 :: N))=false:=by
   cases h9:startB9 (S ++ 47 :: (B ++ 47 :: N))
   ·rfl
   ·obtain⟨a',ha,_⟩:=startB_cons h9;have:=digAsc_dig S (-1) g.hs 66 (by rw[ha];simp);exact absurd this (by decide)
  unfold form3;rw[hp];rfl
 ·have e:hoodP9 l=((66 :: B) ++ 47 :: ((83 :: S) ++ 47 :: (67 :: N)),hoodY y):=by
   have:=hood_gram (m:=66 :: (B ++ 47 :: 83 :: (S ++ [47,67]))) g.hn g.hy;rw[h];simpa using this
  unfold parseG;rw[e,parts_three (by intro hm;rcases List.mem_cons.1 hm with hm | hm;exact absurd hm (by decide);exact nB hm) (by intro hm;rcases List.mem_cons.1 hm with hm | hm;exact absurd hm (by decide);exact nS hm) (by intro hm;rcases List.mem_cons.1 hm with hm | hm;exact absurd hm (by decide);exact nN hm)];unfold form3;rw[show startB9 ((66 :: B) ++ 47 :: ((83 :: S) ++ 47 :: (67 :: N)))=true from (prefix_cons 66 _).1,show startS (83 :: S)=true from (prefix_cons 83 S).1,show startC (67 :: N)=true from (prefix_cons 67 N).1,show restS (83 :: S)=S from (prefix_cons 83 S).2,show restC (67 :: N)=N from (prefix_cons 67 N).2];rfl
theorem code_gram (l:List UInt8):parseG l=(zeroT,15)∨∃ B S N y,Gram l B S N y:=by
 obtain⟨y,hy,hl,hh⟩:=hood_ex l;unfold parseG;by_cases h:(hoodP9 l).1.count 47=2
 ·obtain⟨a,b,c,e,na,nb,nc⟩:=three_of h;rw[e,parts_three na nb nc];unfold form3;cases h1:startB9 (a ++ 47 :: (b ++ 47 :: c))
  ·show endG (digG b) (digG a) c _=_∨_;rcases endG_ex b a c (hoodP9 l).2 with h2 | ⟨h2,h3,h4⟩
   ·exact .inl h2
   ·refine .inr ⟨b,a,c,y,h2,h3,h4,hy,.inl ?_⟩;rw[e] at hl;rw[hl]
    simp
  ·obtain⟨a',ha,_⟩:=startB_cons h1;cases h5:startS b
   ·exact .inl rfl
   cases h6:startC c
   ·exact .inl rfl
   show endG (digG (a.drop 1)) (digG (restS b)) (restC c) _=_∨_;rcases endG_ex (a.drop 1) (restS b) (restC c) (hoodP9 l).2 with h2 | ⟨h2,h3,h4⟩
   ·exact .inl h2
   ·refine .inr ⟨a.drop 1,restS b,restC c,y,h2,h3,h4,hy,.inr ?_⟩;rw[e,ha,prefix_ex h5,prefix_ex h6] at hl;rw[hl,ha];simp[restS,restC]
 ·rw[parts_none h];exact .inl rfl
theorem asc_digs (n:Int):∀ (B:List UInt8)(last:Int),asc last n (digAsc9 last B)=(digAsc9 last B).all fun x=>decide (x≤n)
 | [],last=>rfl
 | c :: B,last=>by
  by_cases hd:(isDig9 c && decide (last < digOf9 c))=true
  ·rw[digAsc9,if_pos hd];simp only[Bool.and_eq_true] at hd;rw[asc,asc_digs n B,hd.2]
   simp
  ·rw[digAsc9,if_neg hd];rfl
theorem fits_digs (B:List UInt8)(m:Nat):asc (-1) ((m:Int) - 1) (digs B)=fitsL (digs B) m:=by
 unfold digs fitsL;rw[asc_digs]
 congr 1
 funext x
 rw[decide_eq_decide];omega
theorem fin_eq (B S:List UInt8)(n:Int){y:List UInt8}(hy:y=[]∨y=[86]∨y=[72]):finG (digs B) (digs S) n (hoodY y)=fin9 (digs B) (digs S) n (hoodY y):=by
 have hk:knownB (hoodY y)=true:=by rcases hy with rfl | rfl | rfl <;> decide
 unfold finG fin9;have e:rightT ⟨hoodY y,n,digs B,digs S⟩=(decide (2≤n) && decide (n≤8) && fitsL (digs B) (hoodY y).length && fitsL (digs S) (hoodY y).length):=by
  unfold rightT;dsimp only;rw[hk,fits_digs,fits_digs]
  simp
 rw[e];by_cases h:3≤n∧n≤8∧fitsL (digs B) (hoodY y).length=true∧fitsL (digs S) (hoodY y).length=true
 ·rw[if_pos h,if_pos];refine⟨h.1,h.2.1,?_⟩;simp only[Bool.and_eq_true,decide_eq_true_eq];exact⟨⟨⟨by omega,h.2.1⟩,h.2.2.1⟩,h.2.2.2⟩
 ·rw[if_neg h,if_neg];rintro⟨h1,h2,h3⟩;simp only[Bool.and_eq_true,decide_eq_true_eq] at h3;exact h ⟨h1,h2,h3.1.2,h3.2⟩
theorem parse_eq9 (l:List UInt8):parseG l=rparseL9 l:=by
 rw[rparse_strip];rcases code_gram l with h | ⟨B,S,N,y,g⟩
 ·rcases ref_gram l with h2 | ⟨B,S,N,y,g⟩
  ·rw[h,h2]
  ·rw[gram_code g,gram_ref g,fin_eq B S (numV N) g.hy]
 ·rw[gram_code g,gram_ref g,fin_eq B S (numV N) g.hy]

/-! the text of a rule is read back -/
structure Cmd where
 kind:Int
 x:Int
 y:Int
 n:Int
 m:Int
 name:List UInt8
 cells:List Cel
 p:Int
 dx:Int
 dy:Int
def cmd0:Cmd:=⟨0,0,0,0,0,[],[],0,0,0⟩
def Cmd.get (c:Cmd)(f:Nat):Int:=if f=1 then c.x else if f=2 then c.y else if f=3 then c.n else if f=4 then c.m else if f=7 then c.p else if f=8 then c.dx else c.dy
def Cmd.set (c:Cmd)(f:Nat)(v:Int):Cmd:=if f=1 then { c with x:=v } else if f=2 then { c with y:=v } else if f=3 then { c with n:=v } else if f=4 then { c with m:=v } else if f=7 then { c with p:=v } else if f=8 then { c with dx:=v } else { c with dy:=v }
structure Slot where
 k:Nat
 text:List UInt8
 fld:Nat
 lo:Int
 hi:Int
def fixS (t:List UInt8):Slot:=⟨0,t,0,0,0⟩
def nameS:Slot:=⟨2,[],0,0,0⟩
def nmbS (f:Nat)(lo hi:Int):Slot:=⟨4,[],f,lo,hi⟩
def atS:List Slot:=[fixS [97,116],nmbS 1 (-1048576) 1048576,nmbS 2 (-1048576) 1048576]
def turnS:Slot:=fixS [116,117,114,110]
structure Form where
 word:List UInt8
 kind:Int
 slots:List Slot
def formsP:List Form:=
 [⟨[114,117,108,101],1,[⟨1,[],0,0,0⟩]⟩,
  ⟨[99,101,108,108,115],2,[nameS,⟨3,[],0,0,0⟩]⟩,
  ⟨[112,117,116],3,[nameS] ++ atS ++ [turnS,nmbS 3 0 7]⟩,
  ⟨[115,104,105,112],4,[nameS] ++ [nmbS 7 1 64,nmbS 8 (-1048576) 1048576,nmbS 9 (-1048576) 1048576]⟩,
  ⟨[115,104,111,116],5,[nameS,fixS [112,104,97,115,101],nmbS 3 0 10000] ++ atS ++ [turnS,nmbS 4 0 7]⟩,
  ⟨[114,117,110],6,[nmbS 3 0 10000]⟩,
  ⟨[101,120,112,101,99,116],7,[nameS] ++ atS⟩,
  ⟨[99,108,101,97,114],8,[]⟩,
  ⟨[115,97,118,101],9,[nameS]⟩,
  ⟨[112,114,105,110,116],10,[]⟩,
  ⟨[99,101,110,115,117,115],11,[]⟩,
  ⟨[99,111,117,110,116],12,[]⟩]
def minusW (s:List UInt8):Bool:=s.head? == some 45
def digsW (s:List UInt8):List UInt8:=if minusW s then s.tail else s
def okW (s:List UInt8):Bool:=(digsW s).all isDig && decide (1≤(digsW s).length) && decide ((digsW s).length≤9) && !((digsW s).headD 0 == 48 && decide (s≠[48]))
def valW (s:List UInt8):Int × Bool:=if okW s then (if minusW s then -(numL (digsW s)) else numL (digsW s),true) else (0,false)
def letterB (c:UInt8):Bool:=decide (97≤c.toNat) && decide (c.toNat≤122) || decide (65≤c.toNat) && decide (c.toNat≤90)
def nmTo:Nat→List UInt8→Bool
 | _,[]=>true
 | i,c :: l=>(letterB c || (decide (0 < i) && isDig c)) && nmTo (i+1) l
def nmW (s:List UInt8):Bool:=nmTo 0 s && decide (1≤s.length) && decide (s.length≤20)
def splitC (c:UInt8):List UInt8→List (List UInt8)
 | []=>[[]]
 | a :: l=>if a=c then [] :: splitC c l else match splitC c l with | []=>[[a]] | p :: ps=>(a :: p) :: ps
def hashB (w:List UInt8):Bool:=w.head? == some 35
def wordsTo:List (List UInt8)→List (List UInt8)
 | []=>[]
 | w :: ps=>if hashB w then [] else if w=[] then wordsTo ps else w :: wordsTo ps
def wordsOf (l:List UInt8):List (List UInt8):=wordsTo (splitC 32 l)
def fitsTo:List Slot→List (List UInt8)→Bool
 | [],_=>true
 | _ :: _,[]=>true
 | s :: ss,w :: ws=>!(decide (s.k=0) && decide (w≠s.text)) && !(decide (s.k=4) && !(valW w).2) && fitsTo ss ws
def fitsP (f:Form)(ws:List (List UInt8)):Bool:=decide (ws.headD []=f.word) && decide (ws.length=1+f.slots.length) && fitsTo f.slots ws.tail
def depB (ops:Array Oper)(k d:Nat):Bool:=match ops[k]? with
 | some o=>o.after.toList.any fun e=>e.on == d && Region.binds .any e
 | none=>false
theorem ready_dep {ops:Array Oper}{listed:Array Bool}{k:Nat}(hi:k ∈ Region.ready .any ops listed)(d:Nat)(h:depB ops k d=true):listed.getD d false=true:=by
 obtain⟨-,o,ho,ha⟩:=mem_ready.1 hi;unfold depB at h;rw[ho] at h;simp only[List.any_eq_true,Bool.and_eq_true,beq_iff_eq] at h;obtain⟨e,he,h1,h2⟩:=h;rw[← h1];exact ha e (by simpa using he) h2
def earlyB (ops:Array Oper):Bool:=(List.range ops.size).all fun k=>match ops[k]? with
 | some o=>o.after.toList.all fun e=>decide (e.on < k)
 | none=>true
theorem ready_done {ops:Array Oper}{listed:Array Bool}(hr:Region.ready .any ops listed=[])(hn:listed.size=ops.size)(he:earlyB ops=true):∀ k,k < ops.size→listed.getD k true=true:=by
 intro k;induction k using Nat.strongRecOn with
 | ind k ih=>
  intro hk;cases hl:listed.getD k true with
  | true=>rfl
  | false=>
   exfalso;have hno:k ∉ Region.ready .any ops listed:=by rw[hr];simp
   apply hno;refine mem_ready.2 ⟨hl,ops[k],Array.getElem?_eq_getElem hk,fun e hea _=>?_⟩;unfold earlyB at he;have h1:=List.all_eq_true.1 he k (List.mem_range.2 hk);rw[Array.getElem?_eq_getElem hk] at h1;have h2:=of_decide_eq_true (List.all_eq_true.1 h1 e (by simpa using hea));have h3:=ih e.on h2 (by omega);rw[Array.getD_eq_getD_getElem?,Array.getElem?_eq_getElem (by omega)] at h3 ⊢;exact h3
end Go.Proofs.YtcfelnhmifkelaaGreatDoor
