/-
  texts Hdr: parts of the proof; conditions stand with each theorem.
-/
import Derived.Test.YtcfelnhmifkelaaGreatDoorUG7
import Derived.Test.YtcfelnhmifkelaaGreatDoorUShelf
import Derived.Test.YtcfelnhmifkelaaGreatDoorUG0
namespace Go.Proofs.YtcfelnhmifkelaaGreatDoor
open Lib(hid)
open Go.RowKit
set_option maxRecDepth 100000
set_option linter.unusedVariables false
set_option linter.unusedSimpArgs false

theorem cut_len (a sep:List UInt8):(Lib.cut a sep).1.length≤a.length∧(Lib.cut a sep).2.1.length≤a.length:=by
 unfold Lib.cut
 split
 ·refine⟨?_,?_⟩
  ·show (a.take _).length≤_;rw[List.length_take];omega
  ·show (a.drop _).length≤_;rw[List.length_drop];omega
 ·exact⟨Nat.le_refl _,Nat.zero_le _⟩
theorem trim_len (a p:List UInt8):(Lib.trimPrefix a p).length≤a.length:=by
 unfold Lib.trimPrefix
 split
 ·rw[List.length_drop];omega
 ·exact Nat.le_refl _
def GCell (w:World):Prop:=∃ m,w.cell? ⟨0,0,none⟩=some (.int .i64 m)
theorem GCell.ext {w w':World}(h:GCell w)(hb:Below w.heap.size w w'):GCell w':=by
 obtain⟨m,hm⟩:=h;exact⟨m,by rw[hb.cell (World.block_lt_of_cell? _ _ hm)];exact hm⟩
theorem cut_any (l sep:List UInt8)(w:World)(hg:GCell w)(hs:l.length < 4294967281):Calls Tryz.prog 33 #[.string ⟨l.toArray⟩,.string ⟨sep.toArray⟩] w fun e w'=>e=.returned (.tuple #[.string ⟨(Lib.cut l sep).1.toArray⟩,.string ⟨(Lib.cut l sep).2.1.toArray⟩,.bool (Lib.cut l sep).2.2])∧Below w.heap.size w w':=by
 obtain⟨m,hm⟩:=hg;refine (Tryz.strings_Cut ⟨l.toArray⟩ ⟨sep.toArray⟩ m w (by show l.toArray.size < _;simpa using hs) hm).mono ?_;rintro e w' ⟨rfl,n,rfl⟩;exact⟨rfl,⟨rfl,rfl,rfl,Nat.le_refl _,fun _ _=>rfl⟩⟩
theorem num_any (l:List UInt8)(d:Nat)(w:World)(hd:d≤9)(hs:l.length≤2147483648):Calls Tryz.prog 137 #[.string ⟨l.toArray⟩,.int .i64 d] w fun e w'=>e=.returned (.tuple #[.int .i64 (numT d l).1,.bool (numT d l).2])∧Below w.heap.size w w':=
 number_any ⟨l.toArray⟩ d w hd (by show l.toArray.size≤_;simpa using hs)
set_option maxHeartbeats 2000000 in
theorem header_any (l:List UInt8)(w:World)(hg:GCell w)(hs:l.length≤65536) :
  Calls Tryz.prog 104 #[.string ⟨l.toArray⟩] w fun e w'=>e=.returned (.tuple #[.int .i64 (hdrT l).1,.int .i64 (hdrT l).2.1,.string ⟨(hdrT l).2.2.1.toArray⟩,.bool (hdrT l).2.2.2])∧Below w.heap.size w w':=by
 have HP:Hid (Calls Tryz.prog 136 #[.string ⟨l.toArray⟩,.string ⟨#[120,32,61,32]⟩] w fun e w'=>e=.returned (.tuple #[.string ⟨(Lib.trimPrefix l tx).toArray⟩,.bool (Lib.hasPrefix l tx)])∧w'=w):=hid (Tryz.strings_CutPrefix ⟨l.toArray⟩ ⟨tx.toArray⟩ w);have h1:=trim_len l tx;obtain⟨a,ha⟩:∃ a,a=Lib.trimPrefix l tx:=⟨_,rfl⟩
 rw[← ha] at h1 HP;cases hp:Lib.hasPrefix l tx
 ·have HN:Hid (hdrT l=(0,0,[],false)):=hid (by unfold hdrT;rw[if_pos hp]);rw[hp] at HP;clear hp;go_enter Tryz.func104,Tryz.ntmps104;go_wp2_with fail;refine HP.out.mono ?_;rintro e w1 ⟨rfl,hw1⟩;subst hw1;go_wp2;refine bodyPost_ret (v:=.tuple #[.int .i64 0,.int .i64 0,.string ⟨#[]⟩,.bool false]) (by simp[results,Tryz.results104,go_sem]) rfl ?_;rw[HN.out];exact⟨rfl,Below.refl _ _⟩
 have HPT:=hid hp;rw[hp] at HP;have HC:Hid (Calls Tryz.prog 33 #[.string ⟨a.toArray⟩,.string ⟨#[44,32,121,32,61,32]⟩] w fun e w'=>e=.returned (.tuple #[.string ⟨(Lib.cut a ty).1.toArray⟩,.string ⟨(Lib.cut a ty).2.1.toArray⟩,.bool (Lib.cut a ty).2.2])∧Below w.heap.size w w'):=hid (cut_any a ty w hg (by omega));have h2:=cut_len a ty;have HT:Hid (hdrT l=if (Lib.cut a ty).2.2=false then (0,0,[],false) else ((numT 9 (Lib.cut a ty).1).1,(numT 9 (Lib.cut (Lib.cut a ty).2.1 tr).1).1,(Lib.cut (Lib.cut a ty).2.1 tr).2.1,(Lib.cut (Lib.cut a ty).2.1 tr).2.2 && (numT 9 (Lib.cut a ty).1).2 && (numT 9 (Lib.cut (Lib.cut a ty).2.1 tr).1).2)):=hid (by
  unfold hdrT;rw[if_neg (by rw[HPT.out];simp),← ha])
 clear hp ha;obtain⟨c1,hc1⟩:∃ c,c=Lib.cut a ty:=⟨_,rfl⟩
 rw[← hc1] at HC HT h2;clear hc1;obtain⟨u,v,ok⟩:=c1;dsimp only at HC HT h2;cases ok
 ·have HN:Hid (hdrT l=(0,0,[],false)):=hid (by rw[HT.out,if_pos rfl]);go_enter Tryz.func104,Tryz.ntmps104;go_wp2_with fail;refine HP.out.mono ?_;rintro e w1 ⟨rfl,hw1⟩;have hw2:=hw1.symm;clear hw1;subst hw2;go_wp2_with fail;refine HC.out.mono ?_;rintro e w1 ⟨rfl,hb1⟩;have HB:=hid hb1;clear hb1;go_wp2;refine bodyPost_ret (v:=.tuple #[.int .i64 0,.int .i64 0,.string ⟨#[]⟩,.bool false]) (by simp[results,Tryz.results104,go_sem]) rfl ?_;rw[HN.out];exact⟨rfl,HB.out⟩
 rw[if_neg (by simp)] at HT;have HC2:Hid (∀ w',Below w.heap.size w w'→Calls Tryz.prog 33 #[.string ⟨v.toArray⟩,.string ⟨#[44,32,114,117,108,101,32,61,32]⟩] w' fun e w''=>e=.returned (.tuple #[.string ⟨(Lib.cut v tr).1.toArray⟩,.string ⟨(Lib.cut v tr).2.1.toArray⟩,.bool (Lib.cut v tr).2.2])∧Below w'.heap.size w' w''):=hid (fun w' hb=>cut_any v tr w' (hg.ext hb) (by omega));have h3:=cut_len v tr;obtain⟨c2,hc2⟩:∃ c,c=Lib.cut v tr:=⟨_,rfl⟩
 rw[← hc2] at HC2 HT h3;clear hc2;obtain⟨x,r,ok⟩:=c2;dsimp only at HC2 HT h3;have HN1:=hid (fun w'=>num_any u 9 w' (by omega) (by omega));have HN2:=hid (fun w'=>num_any x 9 w' (by omega) (by omega));obtain⟨n1,hn1⟩:∃ n,n=numT 9 u:=⟨_,rfl⟩
 obtain⟨n2,hn2⟩:∃ n,n=numT 9 x:=⟨_,rfl⟩
 rw[← hn1] at HN1 HT;rw[← hn2] at HN2 HT;clear hn1 hn2 h1 h2 h3;obtain⟨n1,b1⟩:=n1;obtain⟨n2,b2⟩:=n2;dsimp only at HN1 HN2 HT;go_enter Tryz.func104,Tryz.ntmps104;go_wp2_with fail;refine HP.out.mono ?_;rintro e w1 ⟨rfl,hw1⟩;have hw2:=hw1.symm;clear hw1;subst hw2;go_wp2_with fail;refine HC.out.mono ?_;rintro e w1 ⟨rfl,hb1⟩;have HB1:=hid hb1;clear hb1;have HD2:=hid (HC2.out w1 HB1.out);go_wp2_with fail;refine HD2.out.mono ?_;rintro e w2 ⟨rfl,hb2⟩;have HB2:=hid (HB1.out.trans (hb2.mono HB1.out.size));clear hb2;have HD3:Hid (Calls Tryz.prog 137 #[.string ⟨u.toArray⟩,.int .i64 9] w2 fun e w'=>e=.returned (.tuple #[.int .i64 n1,.bool b1])∧Below w2.heap.size w2 w'):=hid (HN1.out w2);go_wp2_with fail;refine HD3.out.mono ?_;rintro e w3 ⟨rfl,hb3⟩;have HB3:=hid (HB2.out.trans (hb3.mono HB2.out.size));clear hb3;have HD4:Hid (Calls Tryz.prog 137 #[.string ⟨x.toArray⟩,.int .i64 9] w3 fun e w'=>e=.returned (.tuple #[.int .i64 n2,.bool b2])∧Below w3.heap.size w3 w'):=hid (HN2.out w3);go_wp2_with fail;refine HD4.out.mono ?_;rintro e w4 ⟨rfl,hb4⟩;have HB4:=hid (HB3.out.trans (hb4.mono HB3.out.size));clear hb4;cases ok <;> cases b1 <;> cases b2
 ·go_wp2;refine bodyPost_ret (v:=.tuple #[.int .i64 n1,.int .i64 n2,.string ⟨r.toArray⟩,.bool false]) (by simp[results,Tryz.results104,go_sem]) rfl ?_;rw[HT.out];exact⟨rfl,HB4.out⟩
 ·go_wp2;refine bodyPost_ret (v:=.tuple #[.int .i64 n1,.int .i64 n2,.string ⟨r.toArray⟩,.bool false]) (by simp[results,Tryz.results104,go_sem]) rfl ?_;rw[HT.out];exact⟨rfl,HB4.out⟩
 ·go_wp2;refine bodyPost_ret (v:=.tuple #[.int .i64 n1,.int .i64 n2,.string ⟨r.toArray⟩,.bool false]) (by simp[results,Tryz.results104,go_sem]) rfl ?_;rw[HT.out];exact⟨rfl,HB4.out⟩
 ·go_wp2;refine bodyPost_ret (v:=.tuple #[.int .i64 n1,.int .i64 n2,.string ⟨r.toArray⟩,.bool false]) (by simp[results,Tryz.results104,go_sem]) rfl ?_;rw[HT.out];exact⟨rfl,HB4.out⟩
 ·go_wp2;refine bodyPost_ret (v:=.tuple #[.int .i64 n1,.int .i64 n2,.string ⟨r.toArray⟩,.bool false]) (by simp[results,Tryz.results104,go_sem]) rfl ?_;rw[HT.out];exact⟨rfl,HB4.out⟩
 ·go_wp2;refine bodyPost_ret (v:=.tuple #[.int .i64 n1,.int .i64 n2,.string ⟨r.toArray⟩,.bool false]) (by simp[results,Tryz.results104,go_sem]) rfl ?_;rw[HT.out];exact⟨rfl,HB4.out⟩
 ·go_wp2;refine bodyPost_ret (v:=.tuple #[.int .i64 n1,.int .i64 n2,.string ⟨r.toArray⟩,.bool false]) (by simp[results,Tryz.results104,go_sem]) rfl ?_;rw[HT.out];exact⟨rfl,HB4.out⟩
 ·go_wp2;refine bodyPost_ret (v:=.tuple #[.int .i64 n1,.int .i64 n2,.string ⟨r.toArray⟩,.bool true]) (by simp[results,Tryz.results104,go_sem]) rfl ?_;rw[HT.out];exact⟨rfl,HB4.out⟩
end Go.Proofs.YtcfelnhmifkelaaGreatDoor
