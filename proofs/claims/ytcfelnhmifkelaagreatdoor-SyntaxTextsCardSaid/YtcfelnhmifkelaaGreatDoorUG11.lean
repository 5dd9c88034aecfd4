/-
  texts DigR8 ParseR8 Plain8: parts of the proof; conditions stand with each theorem.
-/
import Derived.Test.YtcfelnhmifkelaaGreatDoorUG10
namespace Go.Proofs.YtcfelnhmifkelaaGreatDoor
open Lib(hid)
set_option linter.unusedSimpArgs false
set_option maxRecDepth 100000
open Go.RowKit
set_option linter.unusedVariables false

def RetIntsN8 (zs:List Int)(n:Int)(w:World)(e:Ending)(w':World):Prop:=∃ A c,e=.returned (.tuple #[.slice A zs.length c,.int .i64 n])∧Ints w' A zs∧NewA w.heap.size A∧Below w.heap.size w w'
theorem ret_pair8 {v:Value}{a b:Int}(h:a=b):Ending.returned (.tuple #[v,.int .i64 a])=.returned (.tuple #[v,.int .i64 b]):=by rw[h]
def digAsc8 (last:Int):List UInt8→List Int
 | []=>[]
 | c :: l=>if isDig8 c && decide (last < digOf8 c) then digOf8 c :: digAsc8 (digOf8 c) l else []
def lastZ8 (zs:List Int):Int:=zs.getLast?.getD (-1)
theorem lastZ_snoc8 (zs:List Int)(z:Int):lastZ8 (zs ++ [z])=z:=by simp[lastZ8]
theorem lastZ_at8 {zs:List Int}(h:zs≠[]):lastZ8 zs=zs[zs.length - 1]'(by have:=List.length_pos_iff.2 h;omega):=by
 unfold lastZ8;rw[List.getLast?_eq_some_getLast h,List.getLast_eq_getElem];rfl
theorem digAsc_yes8 {last:Int}{l:List UInt8}{j:Nat}(h:j < l.length)(hd:isDig8 l[j]=true)(hl:last < digOf8 l[j]):digAsc8 last (l.drop j)=digOf8 l[j] :: digAsc8 (digOf8 l[j]) (l.drop (j+1)):=by
 rw[List.drop_eq_getElem_cons h];simp[digAsc8,hd,hl]
theorem digAsc_no8 {last:Int}{l:List UInt8}{j:Nat}(h:j < l.length)(hd:isDig8 l[j]=false∨¬ last < digOf8 l[j]):digAsc8 last (l.drop j)=[]:=by
 rw[List.drop_eq_getElem_cons h];rcases hd with hd | hd <;> simp[digAsc8,hd]
theorem get_byte8 (s:ByteArray)(j:Nat)(h:j < s.size)(h':j < s.data.toList.length):s.data.toList[j]=s[j]:=by
 rfl
set_option maxHeartbeats 1000000 in
theorem digitsR_any8 (s:ByteArray)(p:Nat)(w:World)(hp:p≤s.size)(hs:s.size≤2147483648) :
  Calls Tryz.prog 167 #[.string s,.int .i64 p] w (RetIntsN8 (digAsc8 (-1) (s.data.toList.drop p)) ((p:Int)+(digAsc8 (-1) (s.data.toList.drop p)).length) w):=by
 obtain⟨l,hl⟩:∃ l,l=s.data.toList:=⟨_,rfl⟩
 have hgb:∀ j (h:j < s.size) (h':j < l.length),l[j]=s[j]:=by subst hl;exact get_byte8 s
 have hlen:l.length=s.size:=by rw[hl];rfl
 rw[← hl];have HG:=hid (And.intro hlen hgb);clear hl hgb hlen;obtain⟨zr,hzr⟩:∃ zr,zr=digAsc8 (-1) (l.drop p):=⟨_,rfl⟩
 rw[← hzr];have HR:=hid hzr;clear hzr;go_enter Tryz.func167,Tryz.ntmps167;go_wp2;go_loopw [1,6] (fun i v wr=>∃ (j:Nat) (zs:List Int),p≤j∧j≤s.size∧i=.int .i64 j∧OwnI 3 wr w.heap.size v zs∧Below w.heap.size w wr∧zs.length+p≤j∧j≤zs.length+p∧Hid (zr=zs ++ digAsc8 (lastZ8 zs) (l.drop j))) (fun i _ _=>s.size - (intOf i).toNat)
 case atStart=>exact⟨p,[],Nat.le_refl _,hp,rfl,OwnI.nil _ _ _,Below.refl _ _,by simp,by simp,HR⟩
 case round=>
  obtain⟨j,zs,hpj,hjs,rfl,hown,hb,hz1,hz2,HT⟩:=hrel;obtain⟨A,c,hv,hi,hnew⟩:=hown.ints;subst hv;by_cases hlt:j < s.size
  ·have hlt':j < l.length:=by rw[HG.out.1];exact hlt
   have hc0:(s[j].toNat:Int)≤255:=by have:=s[j].toNat_lt;omega
   have hdg:isDig8 l[j]=(decide ((48:Int)≤s[j].toNat) && decide ((s[j].toNat:Int)≤57)):=by rw[HG.out.2 j hlt hlt'];rfl
   have hdo:digOf8 l[j]=(s[j].toNat:Int) - 48:=by rw[HG.out.2 j hlt hlt'];rfl
   have HD:=hid (And.intro hdg hdo);clear hdg hdo;by_cases h1:(s[j].toNat:Int) < 48
   ·have d0:decide ((48:Int)≤s[j].toNat)=false:=decide_eq_false (by omega);have hno:zr=zs:=by
     rw[HT.out,digAsc_no8 hlt' (.inl (by rw[HD.out.1,d0];rfl)),List.append_nil]
    obtain rfl:=hno;go_wp2;go_quiet (fail)
    go_wp2;go_ret2;exact⟨_,c,ret_pair8 (by omega),hi.drewN _,hnew,below_drewN hb _⟩
   ·have d0:decide ((48:Int)≤s[j].toNat)=true:=decide_eq_true (by omega);by_cases h2:(57:Int) < s[j].toNat
    ·have d1:decide ((s[j].toNat:Int)≤57)=false:=decide_eq_false (by omega);have hno:zr=zs:=by
      rw[HT.out,digAsc_no8 hlt' (.inl (by rw[HD.out.1,d0,d1];rfl)),List.append_nil]
     obtain rfl:=hno;go_wp2;go_quiet (fail)
     go_wp2;go_ret2;exact⟨_,c,ret_pair8 (by omega),hi.drewN _,hnew,below_drewN hb _⟩
    ·have d1:decide ((s[j].toNat:Int)≤57)=true:=decide_eq_true (by omega);have hdig:isDig8 l[j]=true:=by rw[HD.out.1,d0,d1];rfl
     by_cases h3:zs.length=0
     ·obtain rfl:zs=[]:=List.eq_nil_of_length_eq_zero h3;have hnx:zr=([] ++ [(s[j].toNat:Int) - 48]) ++ digAsc8 (lastZ8 ([] ++ [(s[j].toNat:Int) - 48])) (l.drop (j+1)):=by
       rw[lastZ_snoc8,HT.out,digAsc_yes8 hlt' hdig (by rw[HD.out.2];show (-1:Int) < _;omega),HD.out.2];rfl
      have HN:=hid hnx;have hlen0:(([]:List Int).length:Int)=0:=rfl;clear hnx hdig h3;go_wp2;go_quiet (fail)
      go_wp2_with (at_builtin;refine wpList_pushI rfl _ _ _ rfl w.heap.size 3 Tryz.underlying142 Tryz.infoInt _ _ rfl (hown.drewN nq) _ rfl (by omega) hb.size ?_);intro v' w1 hown2 hb2;have hb3:=(below_drewN hb nq).trans hb2;go_wp2;go_roundw
      case rel=>exact⟨j+1,[] ++ [(s[j].toNat:Int) - 48],by omega,by omega,by go_num,hown2,hb3,by rw[List.length_append];simp;omega,by rw[List.length_append];simp;omega,HN⟩
      case measure=>simp[intOf];omega
     ·have hpos:0 < zs.length:=by omega
      obtain⟨b1,o1,hA,-,hc⟩:=hi.at_ (k:=zs.length - 1) (by omega);subst hA;have hlz:lastZ8 zs=zs[zs.length - 1]:=lastZ_at8 (by rintro rfl;simp at h3);have HL:=hid hlz;have d2:((zs.length:Int) == 0)=false:=by simp;intro h;subst h;simp at h3
      have hidx:((zs.length:Int) - 1).toNat=zs.length - 1:=by omega
      clear hlz;by_cases h4:zs[zs.length - 1] < (s[j].toNat:Int) - 48
      ·have d3:decide (zs[zs.length - 1] < (s[j].toNat:Int) - 48)=true:=decide_eq_true h4;have hnx:zr=(zs ++ [(s[j].toNat:Int) - 48]) ++ digAsc8 (lastZ8 (zs ++ [(s[j].toNat:Int) - 48])) (l.drop (j+1)):=by
        rw[lastZ_snoc8,HT.out,digAsc_yes8 hlt' hdig (by rw[HD.out.2,HL.out];exact h4),HD.out.2,List.append_assoc];rfl
       have HN:=hid hnx;clear hnx hdig h3;go_wp2;go_quiet (fail)
       go_wp2_with (at_builtin;refine wpList_pushI rfl _ _ _ rfl w.heap.size 3 Tryz.underlying142 Tryz.infoInt _ _ rfl (hown.drewN nq) _ rfl (by omega) hb.size ?_);intro v' w1 hown2 hb2;have hb3:=(below_drewN hb nq).trans hb2;go_wp2;go_roundw
       case rel=>exact⟨j+1,zs ++ [(s[j].toNat:Int) - 48],by omega,by omega,by go_num,hown2,hb3,by rw[List.length_append];simp;omega,by rw[List.length_append];simp;omega,HN⟩
       case measure=>simp[intOf];omega
      ·have d3:decide (zs[zs.length - 1] < (s[j].toNat:Int) - 48)=false:=decide_eq_false h4;have hno:zr=zs:=by
        rw[HT.out,digAsc_no8 hlt' (.inr (by rw[HD.out.2,HL.out];exact h4)),List.append_nil]
       obtain rfl:=hno;clear hdig h3;go_wp2;go_quiet (fail)
       go_wp2;go_ret2;exact⟨_,c,ret_pair8 (by omega),hi.drewN _,hnew,below_drewN hb _⟩
  ·have hno:zr=zs:=by
    rw[HT.out,List.drop_of_length_le (by rw[HG.out.1];omega)];simp[digAsc8]
   obtain rfl:=hno;obtain rfl:j=s.size:=by omega
   have d0:decide ((s.size:Int) < (s.size:Int))=false:=by simp
   have d0':decide (s.size < s.size)=false:=by simp
   go_wp2;go_quiet (fail)
   go_wp2;go_ret2;exact⟨_,c,ret_pair8 (by omega),hi.drewN _,hnew,below_drewN hb _⟩

def hoodR (l:List UInt8)(q:Nat):List (Int × Int):=if q < l.length then (if l.getD q 0=72 then hexL else if l.getD q 0=86 then neumL 1 else mooreL 1) else mooreL 1
def badR (l:List UInt8)(q:Nat):Bool:=decide (q < l.length) && (decide (q+1≠l.length) || (decide (l.getD q 0≠86) && decide (l.getD q 0≠72)))
def fitR (b s:List Int)(h:List (Int × Int)):TotL × Int:=
 if asc (-1) ((h.length:Int) - 1) b && asc (-1) ((h.length:Int) - 1) s then (⟨h,2,b,s⟩,0) else (zeroT,5)
def endR (l:List UInt8)(b s:List Int)(q:Nat):TotL × Int:=if badR l q then (zeroT,15) else fitR b s (hoodR l q)
def midR (l:List UInt8)(b:List Int)(p:Nat):TotL × Int:=
 if decide (l.length≤p+1) || decide (l.getD p 0≠47) || decide (l.getD (p+1) 0≠83) then (zeroT,15)
 else endR l b (digAsc8 (-1) (l.drop (p+2))) (p+2+(digAsc8 (-1) (l.drop (p+2))).length)
def rparseL8 (l:List UInt8):TotL × Int:=
 if decide (l.length=0) || decide (l.getD 0 0≠66) then (zeroT,15)
 else midR l (digAsc8 (-1) (l.drop 1)) (1+(digAsc8 (-1) (l.drop 1)).length)
theorem u8_is {a b:UInt8}{n:Int}(h:(b.toNat:Int)=n):a=b ↔ (a.toNat:Int)=n:=by
 rw[← h,Int.ofNat_inj];exact⟨fun h=>by rw[h],fun h=>UInt8.toNat_inj.1 h⟩
theorem digAsc_le8 (l:List UInt8):∀ last,(digAsc8 last l).length≤l.length:=by
 induction l with
 | nil=>intro last;simp[digAsc8]
 | cons c l ih=>
  intro last;unfold digAsc8
  split
  ·simp only[List.length_cons];have:=ih (digOf8 c);omega
  ·simp

set_option maxHeartbeats 4000000 in
theorem rparse_any8 (s:ByteArray)(w:World)(hs:s.size≤2147483648) :
  Calls Tryz.prog 126 #[.string s] w (RetTot8 (rparseL8 s.data.toList) w):=by
 have hO:=(Below.refl w.heap.size w).alloc (Nat.le_refl _) (.cells #[.slice none 0 0,.int .i64 0,.slice none 0 0,.slice none 0 0] 144);have br0:Blk (w.alloc (.cells #[.slice none 0 0,.int .i64 0,.slice none 0 0,.slice none 0 0] 144)) w.heap.size 144 #[.slice none 0 0,.int .i64 0,.slice none 0 0,.slice none 0 0]:=Blk.new w 144 #[.slice none 0 0,.int .i64 0,.slice none 0 0,.slice none 0 0];have D1:=digitsR_any8 s;obtain⟨l,hl⟩:∃ l,l=s.data.toList:=⟨_,rfl⟩
 have hgb:∀ j (h:j < s.size),l.getD j 0=s[j]:=by
  intro j h;subst hl;rw[List.getD_eq_getElem?_getD,List.getElem?_eq_getElem (by exact h)];rfl
 have hlen:l.length=s.size:=by rw[hl];rfl
 rw[← hl] at D1;rw[← hl];clear hl;have GB:=hid (And.intro hgb hlen);have DD:=hid D1;clear hgb hlen D1;by_cases hz:s.size=0
 ·have hr:rparseL8 l=(zeroT,15):=by
   unfold rparseL8;rw[decide_eq_true (by rw[GB.out.2];exact hz)];rfl
  have HR:=hid hr;have d0:((s.size:Int) == 0)=true:=by simp[hz]
  clear hr hz;have r0:=br0.cell_ 0 _ rfl;have r1:=br0.cell_ 1 _ rfl;have r2:=br0.cell_ 2 _ rfl;have r3:=br0.cell_ 3 _ rfl;have g0:=br0.frozen 0;have g1:=br0.frozen 1;have g2:=br0.frozen 2;have g3:=br0.frozen 3;go_enter Tryz.func126,Tryz.ntmps126;go_wp2;refine bodyPost_ret (v:=.tuple #[.agg #[.slice none 0 0,.int .i64 0,.slice none 0 0,.slice none 0 0],.int .i64 15]) (by simp[results,Tryz.results126,go_sem,r0,r1,r2,r3]) rfl ?_;rw[HR.out];first | exact⟨none,0,none,0,none,0,rfl,TotR.zero _,below_set4 hO (Nat.le_refl _) _ _ _ _⟩ | exact⟨none,0,none,0,none,0,rfl,TotR.zero _,hO⟩
 have hnz:0 < s.size:=by omega
 have d0:((s.size:Int) == 0)=false:=beq_eq_false_iff_ne.2 (by omega);have dz:decide (l.length=0)=false:=decide_eq_false (by rw[GB.out.2];exact hz);have DZ:=hid dz;clear hz dz;by_cases hB:(s[0].toNat:Int)=66
 rotate_left
 ·have hr:rparseL8 l=(zeroT,15):=by
   unfold rparseL8;rw[decide_eq_true (p:=l.getD 0 0≠66) (by rw[GB.out.1 0 hnz];exact fun h=>hB ((u8_is rfl).1 h))]
   simp
  have HR:=hid hr;have d1:((s[0].toNat:Int) != 66)=true:=by simpa using hB
  clear hr hB;have r0:=br0.cell_ 0 _ rfl;have r1:=br0.cell_ 1 _ rfl;have r2:=br0.cell_ 2 _ rfl;have r3:=br0.cell_ 3 _ rfl;have g0:=br0.frozen 0;have g1:=br0.frozen 1;have g2:=br0.frozen 2;have g3:=br0.frozen 3;go_enter Tryz.func126,Tryz.ntmps126;go_wp2;refine bodyPost_ret (v:=.tuple #[.agg #[.slice none 0 0,.int .i64 0,.slice none 0 0,.slice none 0 0],.int .i64 15]) (by simp[results,Tryz.results126,go_sem,r0,r1,r2,r3]) rfl ?_;rw[HR.out];first | exact⟨none,0,none,0,none,0,rfl,TotR.zero _,below_set4 hO (Nat.le_refl _) _ _ _ _⟩ | exact⟨none,0,none,0,none,0,rfl,TotR.zero _,hO⟩
 have hB':decide (l.getD 0 0≠66)=false:=decide_eq_false (by rw[GB.out.1 0 hnz];exact fun h=>h ((u8_is rfl).2 hB));have d1:((s[0].toNat:Int) != 66)=false:=by simpa using hB
 obtain⟨bs,hbs⟩:∃ bs,bs=digAsc8 (-1) (l.drop 1):=⟨_,rfl⟩
 obtain⟨p,hp⟩:∃ p,p=1+bs.length:=⟨_,rfl⟩
 have hr:rparseL8 l=midR l bs p:=by
  unfold rparseL8;rw[DZ.out,hB',← hbs,← hp];rfl
 have c1:∀ w,Calls Tryz.prog 167 #[.string s,.int .i64 1] w (RetIntsN8 bs (p:Int) w):=by
  intro w;have h:=DD.out 1 w hnz hs;rw[← hbs] at h;rw[show ((1:Nat):Int)+(bs.length:Int)=(p:Int) from by omega] at h;exact h
 have hple:p≤s.size:=by
  have:=digAsc_le8 (l.drop 1) (-1);rw[← hbs,List.length_drop,GB.out.2] at this;omega
 have C1:=hid c1;have HR0:=hid hr;clear hr c1 hp hbs hB hB';by_cases e1:s.size≤p+1
 ·have hr:rparseL8 l=(zeroT,15):=by
   rw[HR0.out];unfold midR;rw[decide_eq_true (p:=l.length≤p+1) (by rw[GB.out.2];exact e1)];rfl
  have HR:=hid hr;have d2:decide ((s.size:Int)≤(p:Int)+1)=true:=decide_eq_true (by omega);clear hr;have r0:=br0.cell_ 0 _ rfl;have r1:=br0.cell_ 1 _ rfl;have r2:=br0.cell_ 2 _ rfl;have r3:=br0.cell_ 3 _ rfl;have g0:=br0.frozen 0;have g1:=br0.frozen 1;have g2:=br0.frozen 2;have g3:=br0.frozen 3;go_enter Tryz.func126,Tryz.ntmps126;go_wp2_with fail;refine (C1.out _).mono ?_;rintro e w1 ⟨A1,c1,rfl,hi1,hn1,hb1⟩;have br1:=br0.below hb1 br0.lt;have hO1:=hO.trans (hb1.mono hO.size);have hnb:NewA (w.heap.size+1) A1:=hn1.mono (by simp);clear r0 r1 r2 r3 g0 g1 g2 g3;have r0:=br1.cell_ 0 _ rfl;have r1:=br1.cell_ 1 _ rfl;have r2:=br1.cell_ 2 _ rfl;have r3:=br1.cell_ 3 _ rfl;have g0:=br1.frozen 0;have g1:=br1.frozen 1;have g2:=br1.frozen 2;have g3:=br1.frozen 3;go_wp2;refine bodyPost_ret (v:=.tuple #[.agg #[.slice none 0 0,.int .i64 0,.slice none 0 0,.slice none 0 0],.int .i64 15]) (by simp[results,Tryz.results126,go_sem,r0,r1,r2,r3]) rfl ?_;rw[HR.out];first | exact⟨none,0,none,0,none,0,rfl,TotR.zero _,below_set4 hO1 (Nat.le_refl _) _ _ _ _⟩ | exact⟨none,0,none,0,none,0,rfl,TotR.zero _,hO1⟩
 have d2:decide ((s.size:Int)≤(p:Int)+1)=false:=decide_eq_false (by omega);have hp1:p+1 < s.size:=by omega
 have hp0:p < s.size:=by omega
 have m1:decide (l.length≤p+1)=false:=decide_eq_false (by rw[GB.out.2];exact e1);have M1:=hid m1;clear e1 m1;by_cases e2:(s[p].toNat:Int)=47
 rotate_left
 ·have hr:rparseL8 l=(zeroT,15):=by
   rw[HR0.out];unfold midR;rw[decide_eq_true (p:=l.getD p 0≠47) (by rw[GB.out.1 p hp0];exact fun h=>e2 ((u8_is rfl).1 h))]
   simp
  have HR:=hid hr;have d3:((s[p].toNat:Int) != 47)=true:=by simpa using e2
  clear hr e2;have r0:=br0.cell_ 0 _ rfl;have r1:=br0.cell_ 1 _ rfl;have r2:=br0.cell_ 2 _ rfl;have r3:=br0.cell_ 3 _ rfl;have g0:=br0.frozen 0;have g1:=br0.frozen 1;have g2:=br0.frozen 2;have g3:=br0.frozen 3;go_enter Tryz.func126,Tryz.ntmps126;go_wp2_with fail;refine (C1.out _).mono ?_;rintro e w1 ⟨A1,c1,rfl,hi1,hn1,hb1⟩;have br1:=br0.below hb1 br0.lt;have hO1:=hO.trans (hb1.mono hO.size);have hnb:NewA (w.heap.size+1) A1:=hn1.mono (by simp);clear r0 r1 r2 r3 g0 g1 g2 g3;have r0:=br1.cell_ 0 _ rfl;have r1:=br1.cell_ 1 _ rfl;have r2:=br1.cell_ 2 _ rfl;have r3:=br1.cell_ 3 _ rfl;have g0:=br1.frozen 0;have g1:=br1.frozen 1;have g2:=br1.frozen 2;have g3:=br1.frozen 3;go_wp2;refine bodyPost_ret (v:=.tuple #[.agg #[.slice none 0 0,.int .i64 0,.slice none 0 0,.slice none 0 0],.int .i64 15]) (by simp[results,Tryz.results126,go_sem,r0,r1,r2,r3]) rfl ?_;rw[HR.out];first | exact⟨none,0,none,0,none,0,rfl,TotR.zero _,below_set4 hO1 (Nat.le_refl _) _ _ _ _⟩ | exact⟨none,0,none,0,none,0,rfl,TotR.zero _,hO1⟩
 have d3:((s[p].toNat:Int) != 47)=false:=by simpa using e2
 have m2:decide (l.getD p 0≠47)=false:=decide_eq_false (by rw[GB.out.1 p hp0];exact fun h=>h ((u8_is rfl).2 e2));have M2:=hid m2;clear e2 m2;by_cases e3:(s[p+1].toNat:Int)=83
 rotate_left
 ·have hr:rparseL8 l=(zeroT,15):=by
   rw[HR0.out];unfold midR;rw[decide_eq_true (p:=l.getD (p+1) 0≠83) (by rw[GB.out.1 (p+1) hp1];exact fun h=>e3 ((u8_is rfl).1 h))]
   simp
  have HR:=hid hr;have d4:((s[p+1].toNat:Int) != 83)=true:=by simpa using e3
  clear hr e3;have r0:=br0.cell_ 0 _ rfl;have r1:=br0.cell_ 1 _ rfl;have r2:=br0.cell_ 2 _ rfl;have r3:=br0.cell_ 3 _ rfl;have g0:=br0.frozen 0;have g1:=br0.frozen 1;have g2:=br0.frozen 2;have g3:=br0.frozen 3;go_enter Tryz.func126,Tryz.ntmps126;go_wp2_with fail;refine (C1.out _).mono ?_;rintro e w1 ⟨A1,c1,rfl,hi1,hn1,hb1⟩;have br1:=br0.below hb1 br0.lt;have hO1:=hO.trans (hb1.mono hO.size);have hnb:NewA (w.heap.size+1) A1:=hn1.mono (by simp);clear r0 r1 r2 r3 g0 g1 g2 g3;have r0:=br1.cell_ 0 _ rfl;have r1:=br1.cell_ 1 _ rfl;have r2:=br1.cell_ 2 _ rfl;have r3:=br1.cell_ 3 _ rfl;have g0:=br1.frozen 0;have g1:=br1.frozen 1;have g2:=br1.frozen 2;have g3:=br1.frozen 3;go_wp2;refine bodyPost_ret (v:=.tuple #[.agg #[.slice none 0 0,.int .i64 0,.slice none 0 0,.slice none 0 0],.int .i64 15]) (by simp[results,Tryz.results126,go_sem,r0,r1,r2,r3]) rfl ?_;rw[HR.out];first | exact⟨none,0,none,0,none,0,rfl,TotR.zero _,below_set4 hO1 (Nat.le_refl _) _ _ _ _⟩ | exact⟨none,0,none,0,none,0,rfl,TotR.zero _,hO1⟩
 have d4:((s[p+1].toNat:Int) != 83)=false:=by simpa using e3
 have m3:decide (l.getD (p+1) 0≠83)=false:=decide_eq_false (by rw[GB.out.1 (p+1) hp1];exact fun h=>h ((u8_is rfl).2 e3));obtain⟨ss,hss⟩:∃ ss,ss=digAsc8 (-1) (l.drop (p+2)):=⟨_,rfl⟩
 obtain⟨q,hq⟩:∃ q,q=p+2+ss.length:=⟨_,rfl⟩
 have hr:rparseL8 l=endR l bs ss q:=by
  rw[HR0.out];unfold midR;rw[M1.out,M2.out,m3,← hss,← hq];rfl
 have c2:∀ w,Calls Tryz.prog 167 #[.string s,.int .i64 ((p:Int)+2)] w (RetIntsN8 ss (q:Int) w):=by
  intro w;have h:=DD.out (p+2) w (by omega) hs;rw[← hss] at h;rw[show ((p+2:Nat):Int)+(ss.length:Int)=(q:Int) from by omega,show ((p+2:Nat):Int)=(p:Int)+2 from by omega] at h;exact h
 have hqle:q≤s.size:=by
  have:=digAsc_le8 (l.drop (p+2)) (-1);rw[← hss,List.length_drop,GB.out.2] at this;omega
 have C2:=hid c2;have HR1:=hid hr;clear hr c2 hq hss e3 m3;by_cases f1:q < s.size
 rotate_left
 ·have hr:rparseL8 l=fitR bs ss (mooreL 1):=by
   rw[HR1.out];unfold endR badR hoodR;rw[if_neg (c:=q < l.length) (by rw[GB.out.2];exact f1),decide_eq_false (p:=q < l.length) (by rw[GB.out.2];exact f1)];rfl
  have HF:=hid hr;have d5:decide ((q:Int) < (s.size:Int))=false:=decide_eq_false (by omega);have d5':decide (q < s.size)=false:=decide_eq_false f1;clear hr;have r0:=br0.cell_ 0 _ rfl;have r1:=br0.cell_ 1 _ rfl;have r2:=br0.cell_ 2 _ rfl;have r3:=br0.cell_ 3 _ rfl;have g0:=br0.frozen 0;have g1:=br0.frozen 1;have g2:=br0.frozen 2;have g3:=br0.frozen 3;go_enter Tryz.func126,Tryz.ntmps126;go_wp2_with fail;refine (C1.out _).mono ?_;rintro e w1 ⟨A1,c1,rfl,hi1,hn1,hb1⟩;have br1:=br0.below hb1 br0.lt;have hO1:=hO.trans (hb1.mono hO.size);have hnb:NewA (w.heap.size+1) A1:=hn1.mono (by simp);clear r0 r1 r2 r3 g0 g1 g2 g3;have r0:=br1.cell_ 0 _ rfl;have r1:=br1.cell_ 1 _ rfl;have r2:=br1.cell_ 2 _ rfl;have r3:=br1.cell_ 3 _ rfl;have g0:=br1.frozen 0;have g1:=br1.frozen 1;have g2:=br1.frozen 2;have g3:=br1.frozen 3;go_wp2_with fail;refine (C2.out _).mono ?_;rintro e w2 ⟨A2,c2,rfl,hi2,hn2,hb2⟩;have br2:=br1.below hb2 br1.lt;have hO2:=hO1.trans (hb2.mono hO1.size);have hi1':=hi1.ext hb2;have hns:NewA (w.heap.size+1) A2:=hn2.mono (Nat.succ_le_of_lt br1.lt);go_wp2_with fail;refine (rmoore_one _).mono ?_;rintro e w3 ⟨A3,c3,rfl,hp3,hn3,hb3⟩;have br3:=br2.below hb3 br2.lt;have hO3:=hO2.trans (hb3.mono hO2.size);have hi1'':=hi1'.ext hb3;have hi2':=hi2.ext hb3;have hnp3:NewA (w.heap.size+1) A3:=hn3.mono (Nat.succ_le_of_lt br2.lt);clear r0 r1 r2 r3 g0 g1 g2 g3;have r0:=br3.cell_ 0 _ rfl;have r1:=br3.cell_ 1 _ rfl;have r2:=br3.cell_ 2 _ rfl;have r3:=br3.cell_ 3 _ rfl;have g0:=br3.frozen 0;have g1:=br3.frozen 1;have g2:=br3.frozen 2;have g3:=br3.frozen 3;have br:=br3;have hO4:=hO3;have hb1_:=hi1'';have hs1:=hi2';have hp:=hp3;have hnp:=hnp3;have hll:(mooreL 1).length≤9:=by decide
  go_wp2_with fail;refine (numbers_any A1 bs c1 (((mooreL 1).length:Int) - 1) _ hb1_).mono ?_;rintro e w6 ⟨rfl,hq6⟩;have br6:=br.below (hq6.below _) br.lt;have hO6:=hO4.trans (hq6.below _);have hb6:=hb1_.ext (hq6.below _);have hs6:=hs1.ext (hq6.below _);have hp6:=hp.ext (hq6.below _);clear r0 r1 r2 r3 g0 g1 g2 g3;have r0:=br6.cell_ 0 _ rfl;have r1:=br6.cell_ 1 _ rfl;have r2:=br6.cell_ 2 _ rfl;have r3:=br6.cell_ 3 _ rfl;have g0:=br6.frozen 0;have g1:=br6.frozen 1;have g2:=br6.frozen 2;have g3:=br6.frozen 3;cases k8:asc (-1) (((mooreL 1).length:Int) - 1) bs
  ·go_wp2;refine bodyPost_ret (v:=.tuple #[.agg #[.slice none 0 0,.int .i64 0,.slice none 0 0,.slice none 0 0],.int .i64 5]) (by simp[results,Tryz.results126,go_sem,r0,r1,r2,r3]) rfl ?_;rw[HF.out,show fitR bs ss (mooreL 1)=(zeroT,5) from by simp[fitR,k8]];exact⟨none,0,none,0,none,0,rfl,TotR.zero _,below_set4 hO6 (Nat.le_refl _) _ _ _ _⟩
  go_wp2_with fail;refine (numbers_any A2 ss c2 (((mooreL 1).length:Int) - 1) _ hs6).mono ?_;rintro e w7 ⟨rfl,hq7⟩;have br7:=br6.below (hq7.below _) br6.lt;have hO7:=hO6.trans (hq7.below _);have hb7:=hb6.ext (hq7.below _);have hs7:=hs6.ext (hq7.below _);have hp7:=hp6.ext (hq7.below _);clear r0 r1 r2 r3 g0 g1 g2 g3;have r0:=br7.cell_ 0 _ rfl;have r1:=br7.cell_ 1 _ rfl;have r2:=br7.cell_ 2 _ rfl;have r3:=br7.cell_ 3 _ rfl;have g0:=br7.frozen 0;have g1:=br7.frozen 1;have g2:=br7.frozen 2;have g3:=br7.frozen 3;cases k9:asc (-1) (((mooreL 1).length:Int) - 1) ss
  ·go_wp2;refine bodyPost_ret (v:=.tuple #[.agg #[.slice none 0 0,.int .i64 0,.slice none 0 0,.slice none 0 0],.int .i64 5]) (by simp[results,Tryz.results126,go_sem,r0,r1,r2,r3]) rfl ?_;rw[HF.out,show fitR bs ss (mooreL 1)=(zeroT,5) from by simp[fitR,k9]];exact⟨none,0,none,0,none,0,rfl,TotR.zero _,below_set4 hO7 (Nat.le_refl _) _ _ _ _⟩
  go_wp2;refine bodyPost_ret (v:=.tuple #[.agg #[.slice A3 (mooreL 1).length c3,.int .i64 2,.slice A1 bs.length c1,.slice A2 ss.length c2],.int .i64 0]) (by simp[results,Tryz.results126,go_sem,r0,r1,r2,r3]) rfl ?_;rw[HF.out,show fitR bs ss (mooreL 1)=(⟨(mooreL 1),2,bs,ss⟩,0) from by simp[fitR,k8,k9]];exact⟨A3,c3,A1,c1,A2,c2,rfl,(TotR.mk hp7 hb7 hs7).set48 hnp hnb hns _ _ _ _,below_set4 hO7 (Nat.le_refl _) _ _ _ _⟩
 have d5:decide ((q:Int) < (s.size:Int))=true:=decide_eq_true (by omega);have d5':decide (q < s.size)=true:=decide_eq_true f1;have hql:q < l.length:=by rw[GB.out.2];exact f1
 have hqg:=GB.out.1 q f1;by_cases v1:(s[q].toNat:Int)=86
 ·have d6:((s[q].toNat:Int) == 86)=true:=by simpa using v1
  have d7:((s[q].toNat:Int) == 72)=false:=by simp;omega
  have d8:((s[q].toNat:Int) != 86)=false:=by simpa using v1
  have hv:l.getD q 0=86:=by rw[hqg];exact (u8_is rfl).2 v1
  have hho:hoodR l q=neumL 1:=by
   unfold hoodR;rw[if_pos hql,hv];rfl
  by_cases e5:q+1=s.size
  ·have hr:rparseL8 l=fitR bs ss (neumL 1):=by
    rw[HR1.out];unfold endR badR;rw[hho,hv,decide_eq_false (p:=q+1≠l.length) (by rw[GB.out.2];exact fun h=>h e5)]
    simp
   have HF:=hid hr;have d9:((q:Int)+1 != (s.size:Int))=false:=by simp;omega
   clear hr hho hv e5 v1 hqg hql;have r0:=br0.cell_ 0 _ rfl;have r1:=br0.cell_ 1 _ rfl;have r2:=br0.cell_ 2 _ rfl;have r3:=br0.cell_ 3 _ rfl;have g0:=br0.frozen 0;have g1:=br0.frozen 1;have g2:=br0.frozen 2;have g3:=br0.frozen 3;go_enter Tryz.func126,Tryz.ntmps126;go_wp2_with fail;refine (C1.out _).mono ?_;rintro e w1 ⟨A1,c1,rfl,hi1,hn1,hb1⟩;have br1:=br0.below hb1 br0.lt;have hO1:=hO.trans (hb1.mono hO.size);have hnb:NewA (w.heap.size+1) A1:=hn1.mono (by simp);clear r0 r1 r2 r3 g0 g1 g2 g3;have r0:=br1.cell_ 0 _ rfl;have r1:=br1.cell_ 1 _ rfl;have r2:=br1.cell_ 2 _ rfl;have r3:=br1.cell_ 3 _ rfl;have g0:=br1.frozen 0;have g1:=br1.frozen 1;have g2:=br1.frozen 2;have g3:=br1.frozen 3;go_wp2_with fail;refine (C2.out _).mono ?_;rintro e w2 ⟨A2,c2,rfl,hi2,hn2,hb2⟩;have br2:=br1.below hb2 br1.lt;have hO2:=hO1.trans (hb2.mono hO1.size);have hi1':=hi1.ext hb2;have hns:NewA (w.heap.size+1) A2:=hn2.mono (Nat.succ_le_of_lt br1.lt);go_wp2_with fail;refine (rmoore_one _).mono ?_;rintro e w3 ⟨A3,c3,rfl,hp3,hn3,hb3⟩;have br3:=br2.below hb3 br2.lt;have hO3:=hO2.trans (hb3.mono hO2.size);have hi1'':=hi1'.ext hb3;have hi2':=hi2.ext hb3;have hnp3:NewA (w.heap.size+1) A3:=hn3.mono (Nat.succ_le_of_lt br2.lt);clear r0 r1 r2 r3 g0 g1 g2 g3;have r0:=br3.cell_ 0 _ rfl;have r1:=br3.cell_ 1 _ rfl;have r2:=br3.cell_ 2 _ rfl;have r3:=br3.cell_ 3 _ rfl;have g0:=br3.frozen 0;have g1:=br3.frozen 1;have g2:=br3.frozen 2;have g3:=br3.frozen 3;go_wp2_with fail;refine (rneum_one _).mono ?_;rintro e w4 ⟨A4,c4,rfl,hp4,hn4,hb4⟩;have br:=br3.below hb4 br3.lt;have hO4:=hO3.trans (hb4.mono hO3.size);have hb1_:=hi1''.ext hb4;have hs1:=hi2'.ext hb4;have hp:=hp4;have hnp:NewA (w.heap.size+1) A4:=hn4.mono (Nat.succ_le_of_lt br3.lt);clear r0 r1 r2 r3 g0 g1 g2 g3;have r0:=br.cell_ 0 _ rfl;have r1:=br.cell_ 1 _ rfl;have r2:=br.cell_ 2 _ rfl;have r3:=br.cell_ 3 _ rfl;have g0:=br.frozen 0;have g1:=br.frozen 1;have g2:=br.frozen 2;have g3:=br.frozen 3;have hll:(neumL 1).length≤9:=by decide
   go_wp2_with fail;refine (numbers_any A1 bs c1 (((neumL 1).length:Int) - 1) _ hb1_).mono ?_;rintro e w6 ⟨rfl,hq6⟩;have br6:=br.below (hq6.below _) br.lt;have hO6:=hO4.trans (hq6.below _);have hb6:=hb1_.ext (hq6.below _);have hs6:=hs1.ext (hq6.below _);have hp6:=hp.ext (hq6.below _);clear r0 r1 r2 r3 g0 g1 g2 g3;have r0:=br6.cell_ 0 _ rfl;have r1:=br6.cell_ 1 _ rfl;have r2:=br6.cell_ 2 _ rfl;have r3:=br6.cell_ 3 _ rfl;have g0:=br6.frozen 0;have g1:=br6.frozen 1;have g2:=br6.frozen 2;have g3:=br6.frozen 3;cases k8:asc (-1) (((neumL 1).length:Int) - 1) bs
   ·go_wp2;refine bodyPost_ret (v:=.tuple #[.agg #[.slice none 0 0,.int .i64 0,.slice none 0 0,.slice none 0 0],.int .i64 5]) (by simp[results,Tryz.results126,go_sem,r0,r1,r2,r3]) rfl ?_;rw[HF.out,show fitR bs ss (neumL 1)=(zeroT,5) from by simp[fitR,k8]];exact⟨none,0,none,0,none,0,rfl,TotR.zero _,below_set4 hO6 (Nat.le_refl _) _ _ _ _⟩
   go_wp2_with fail;refine (numbers_any A2 ss c2 (((neumL 1).length:Int) - 1) _ hs6).mono ?_;rintro e w7 ⟨rfl,hq7⟩;have br7:=br6.below (hq7.below _) br6.lt;have hO7:=hO6.trans (hq7.below _);have hb7:=hb6.ext (hq7.below _);have hs7:=hs6.ext (hq7.below _);have hp7:=hp6.ext (hq7.below _);clear r0 r1 r2 r3 g0 g1 g2 g3;have r0:=br7.cell_ 0 _ rfl;have r1:=br7.cell_ 1 _ rfl;have r2:=br7.cell_ 2 _ rfl;have r3:=br7.cell_ 3 _ rfl;have g0:=br7.frozen 0;have g1:=br7.frozen 1;have g2:=br7.frozen 2;have g3:=br7.frozen 3;cases k9:asc (-1) (((neumL 1).length:Int) - 1) ss
   ·go_wp2;refine bodyPost_ret (v:=.tuple #[.agg #[.slice none 0 0,.int .i64 0,.slice none 0 0,.slice none 0 0],.int .i64 5]) (by simp[results,Tryz.results126,go_sem,r0,r1,r2,r3]) rfl ?_;rw[HF.out,show fitR bs ss (neumL 1)=(zeroT,5) from by simp[fitR,k9]];exact⟨none,0,none,0,none,0,rfl,TotR.zero _,below_set4 hO7 (Nat.le_refl _) _ _ _ _⟩
   go_wp2;refine bodyPost_ret (v:=.tuple #[.agg #[.slice A4 (neumL 1).length c4,.int .i64 2,.slice A1 bs.length c1,.slice A2 ss.length c2],.int .i64 0]) (by simp[results,Tryz.results126,go_sem,r0,r1,r2,r3]) rfl ?_;rw[HF.out,show fitR bs ss (neumL 1)=(⟨(neumL 1),2,bs,ss⟩,0) from by simp[fitR,k8,k9]];exact⟨A4,c4,A1,c1,A2,c2,rfl,(TotR.mk hp7 hb7 hs7).set48 hnp hnb hns _ _ _ _,below_set4 hO7 (Nat.le_refl _) _ _ _ _⟩
  ·have hr:rparseL8 l=(zeroT,15):=by
    rw[HR1.out];unfold endR badR;rw[decide_eq_true hql,decide_eq_true (p:=q+1≠l.length) (by rw[GB.out.2];exact e5)];rfl
   have HR:=hid hr;have d9:((q:Int)+1 != (s.size:Int))=true:=by simp;omega
   clear hr hho hv e5 v1 hqg hql;have r0:=br0.cell_ 0 _ rfl;have r1:=br0.cell_ 1 _ rfl;have r2:=br0.cell_ 2 _ rfl;have r3:=br0.cell_ 3 _ rfl;have g0:=br0.frozen 0;have g1:=br0.frozen 1;have g2:=br0.frozen 2;have g3:=br0.frozen 3;go_enter Tryz.func126,Tryz.ntmps126;go_wp2_with fail;refine (C1.out _).mono ?_;rintro e w1 ⟨A1,c1,rfl,hi1,hn1,hb1⟩;have br1:=br0.below hb1 br0.lt;have hO1:=hO.trans (hb1.mono hO.size);have hnb:NewA (w.heap.size+1) A1:=hn1.mono (by simp);clear r0 r1 r2 r3 g0 g1 g2 g3;have r0:=br1.cell_ 0 _ rfl;have r1:=br1.cell_ 1 _ rfl;have r2:=br1.cell_ 2 _ rfl;have r3:=br1.cell_ 3 _ rfl;have g0:=br1.frozen 0;have g1:=br1.frozen 1;have g2:=br1.frozen 2;have g3:=br1.frozen 3;go_wp2_with fail;refine (C2.out _).mono ?_;rintro e w2 ⟨A2,c2,rfl,hi2,hn2,hb2⟩;have br2:=br1.below hb2 br1.lt;have hO2:=hO1.trans (hb2.mono hO1.size);have hi1':=hi1.ext hb2;have hns:NewA (w.heap.size+1) A2:=hn2.mono (Nat.succ_le_of_lt br1.lt);go_wp2_with fail;refine (rmoore_one _).mono ?_;rintro e w3 ⟨A3,c3,rfl,hp3,hn3,hb3⟩;have br3:=br2.below hb3 br2.lt;have hO3:=hO2.trans (hb3.mono hO2.size);have hi1'':=hi1'.ext hb3;have hi2':=hi2.ext hb3;have hnp3:NewA (w.heap.size+1) A3:=hn3.mono (Nat.succ_le_of_lt br2.lt);clear r0 r1 r2 r3 g0 g1 g2 g3;have r0:=br3.cell_ 0 _ rfl;have r1:=br3.cell_ 1 _ rfl;have r2:=br3.cell_ 2 _ rfl;have r3:=br3.cell_ 3 _ rfl;have g0:=br3.frozen 0;have g1:=br3.frozen 1;have g2:=br3.frozen 2;have g3:=br3.frozen 3;go_wp2_with fail;refine (rneum_one _).mono ?_;rintro e w4 ⟨A4,c4,rfl,hp4,hn4,hb4⟩;have br:=br3.below hb4 br3.lt;have hO4:=hO3.trans (hb4.mono hO3.size);have hb1_:=hi1''.ext hb4;have hs1:=hi2'.ext hb4;have hp:=hp4;have hnp:NewA (w.heap.size+1) A4:=hn4.mono (Nat.succ_le_of_lt br3.lt);clear r0 r1 r2 r3 g0 g1 g2 g3;have r0:=br.cell_ 0 _ rfl;have r1:=br.cell_ 1 _ rfl;have r2:=br.cell_ 2 _ rfl;have r3:=br.cell_ 3 _ rfl;have g0:=br.frozen 0;have g1:=br.frozen 1;have g2:=br.frozen 2;have g3:=br.frozen 3;go_wp2;refine bodyPost_ret (v:=.tuple #[.agg #[.slice none 0 0,.int .i64 0,.slice none 0 0,.slice none 0 0],.int .i64 15]) (by simp[results,Tryz.results126,go_sem,r0,r1,r2,r3]) rfl ?_;rw[HR.out];first | exact⟨none,0,none,0,none,0,rfl,TotR.zero _,below_set4 hO4 (Nat.le_refl _) _ _ _ _⟩ | exact⟨none,0,none,0,none,0,rfl,TotR.zero _,hO4⟩
 ·have d6:((s[q].toNat:Int) == 86)=false:=by simpa using v1
  have d8:((s[q].toNat:Int) != 86)=true:=by simpa using v1
  have hv:¬ l.getD q 0=86:=by rw[hqg];exact fun h=>v1 ((u8_is rfl).1 h)
  by_cases v2:(s[q].toNat:Int)=72
  ·have d7:((s[q].toNat:Int) == 72)=true:=by simpa using v2
   have d7':((s[q].toNat:Int) != 72)=false:=by simpa using v2
   have hv2:l.getD q 0=72:=by rw[hqg];exact (u8_is rfl).2 v2
   have hho:hoodR l q=hexL:=by
    unfold hoodR;rw[if_pos hql,if_pos hv2]
   by_cases e5:q+1=s.size
   ·have hr:rparseL8 l=fitR bs ss hexL:=by
     rw[HR1.out];unfold endR badR;rw[hho,hv2,decide_eq_false (p:=q+1≠l.length) (by rw[GB.out.2];exact fun h=>h e5)]
     simp
    have HF:=hid hr;have d9:((q:Int)+1 != (s.size:Int))=false:=by simp;omega
    clear hr hho hv hv2 e5 v1 v2 hqg hql;have r0:=br0.cell_ 0 _ rfl;have r1:=br0.cell_ 1 _ rfl;have r2:=br0.cell_ 2 _ rfl;have r3:=br0.cell_ 3 _ rfl;have g0:=br0.frozen 0;have g1:=br0.frozen 1;have g2:=br0.frozen 2;have g3:=br0.frozen 3;go_enter Tryz.func126,Tryz.ntmps126;go_wp2_with fail;refine (C1.out _).mono ?_;rintro e w1 ⟨A1,c1,rfl,hi1,hn1,hb1⟩;have br1:=br0.below hb1 br0.lt;have hO1:=hO.trans (hb1.mono hO.size);have hnb:NewA (w.heap.size+1) A1:=hn1.mono (by simp);clear r0 r1 r2 r3 g0 g1 g2 g3;have r0:=br1.cell_ 0 _ rfl;have r1:=br1.cell_ 1 _ rfl;have r2:=br1.cell_ 2 _ rfl;have r3:=br1.cell_ 3 _ rfl;have g0:=br1.frozen 0;have g1:=br1.frozen 1;have g2:=br1.frozen 2;have g3:=br1.frozen 3;go_wp2_with fail;refine (C2.out _).mono ?_;rintro e w2 ⟨A2,c2,rfl,hi2,hn2,hb2⟩;have br2:=br1.below hb2 br1.lt;have hO2:=hO1.trans (hb2.mono hO1.size);have hi1':=hi1.ext hb2;have hns:NewA (w.heap.size+1) A2:=hn2.mono (Nat.succ_le_of_lt br1.lt);go_wp2_with fail;refine (rmoore_one _).mono ?_;rintro e w3 ⟨A3,c3,rfl,hp3,hn3,hb3⟩;have br3:=br2.below hb3 br2.lt;have hO3:=hO2.trans (hb3.mono hO2.size);have hi1'':=hi1'.ext hb3;have hi2':=hi2.ext hb3;have hnp3:NewA (w.heap.size+1) A3:=hn3.mono (Nat.succ_le_of_lt br2.lt);clear r0 r1 r2 r3 g0 g1 g2 g3;have r0:=br3.cell_ 0 _ rfl;have r1:=br3.cell_ 1 _ rfl;have r2:=br3.cell_ 2 _ rfl;have r3:=br3.cell_ 3 _ rfl;have g0:=br3.frozen 0;have g1:=br3.frozen 1;have g2:=br3.frozen 2;have g3:=br3.frozen 3;go_wp2_with fail;refine (rhex_any _).mono ?_;rintro e w4 ⟨A4,c4,rfl,hp4,hn4,hb4⟩;have br:=br3.below hb4 br3.lt;have hO4:=hO3.trans (hb4.mono hO3.size);have hb1_:=hi1''.ext hb4;have hs1:=hi2'.ext hb4;have hp:=hp4;have hnp:NewA (w.heap.size+1) A4:=hn4.mono (Nat.succ_le_of_lt br3.lt);clear r0 r1 r2 r3 g0 g1 g2 g3;have r0:=br.cell_ 0 _ rfl;have r1:=br.cell_ 1 _ rfl;have r2:=br.cell_ 2 _ rfl;have r3:=br.cell_ 3 _ rfl;have g0:=br.frozen 0;have g1:=br.frozen 1;have g2:=br.frozen 2;have g3:=br.frozen 3;have hll:hexL.length≤9:=by decide
    go_wp2_with fail;refine (numbers_any A1 bs c1 ((hexL.length:Int) - 1) _ hb1_).mono ?_;rintro e w6 ⟨rfl,hq6⟩;have br6:=br.below (hq6.below _) br.lt;have hO6:=hO4.trans (hq6.below _);have hb6:=hb1_.ext (hq6.below _);have hs6:=hs1.ext (hq6.below _);have hp6:=hp.ext (hq6.below _);clear r0 r1 r2 r3 g0 g1 g2 g3;have r0:=br6.cell_ 0 _ rfl;have r1:=br6.cell_ 1 _ rfl;have r2:=br6.cell_ 2 _ rfl;have r3:=br6.cell_ 3 _ rfl;have g0:=br6.frozen 0;have g1:=br6.frozen 1;have g2:=br6.frozen 2;have g3:=br6.frozen 3;cases k8:asc (-1) ((hexL.length:Int) - 1) bs
    ·go_wp2;refine bodyPost_ret (v:=.tuple #[.agg #[.slice none 0 0,.int .i64 0,.slice none 0 0,.slice none 0 0],.int .i64 5]) (by simp[results,Tryz.results126,go_sem,r0,r1,r2,r3]) rfl ?_;rw[HF.out,show fitR bs ss hexL=(zeroT,5) from by simp[fitR,k8]];exact⟨none,0,none,0,none,0,rfl,TotR.zero _,below_set4 hO6 (Nat.le_refl _) _ _ _ _⟩
    go_wp2_with fail;refine (numbers_any A2 ss c2 ((hexL.length:Int) - 1) _ hs6).mono ?_;rintro e w7 ⟨rfl,hq7⟩;have br7:=br6.below (hq7.below _) br6.lt;have hO7:=hO6.trans (hq7.below _);have hb7:=hb6.ext (hq7.below _);have hs7:=hs6.ext (hq7.below _);have hp7:=hp6.ext (hq7.below _);clear r0 r1 r2 r3 g0 g1 g2 g3;have r0:=br7.cell_ 0 _ rfl;have r1:=br7.cell_ 1 _ rfl;have r2:=br7.cell_ 2 _ rfl;have r3:=br7.cell_ 3 _ rfl;have g0:=br7.frozen 0;have g1:=br7.frozen 1;have g2:=br7.frozen 2;have g3:=br7.frozen 3;cases k9:asc (-1) ((hexL.length:Int) - 1) ss
    ·go_wp2;refine bodyPost_ret (v:=.tuple #[.agg #[.slice none 0 0,.int .i64 0,.slice none 0 0,.slice none 0 0],.int .i64 5]) (by simp[results,Tryz.results126,go_sem,r0,r1,r2,r3]) rfl ?_;rw[HF.out,show fitR bs ss hexL=(zeroT,5) from by simp[fitR,k9]];exact⟨none,0,none,0,none,0,rfl,TotR.zero _,below_set4 hO7 (Nat.le_refl _) _ _ _ _⟩
    go_wp2;refine bodyPost_ret (v:=.tuple #[.agg #[.slice A4 hexL.length c4,.int .i64 2,.slice A1 bs.length c1,.slice A2 ss.length c2],.int .i64 0]) (by simp[results,Tryz.results126,go_sem,r0,r1,r2,r3]) rfl ?_;rw[HF.out,show fitR bs ss hexL=(⟨hexL,2,bs,ss⟩,0) from by simp[fitR,k8,k9]];exact⟨A4,c4,A1,c1,A2,c2,rfl,(TotR.mk hp7 hb7 hs7).set48 hnp hnb hns _ _ _ _,below_set4 hO7 (Nat.le_refl _) _ _ _ _⟩
   ·have hr:rparseL8 l=(zeroT,15):=by
     rw[HR1.out];unfold endR badR;rw[decide_eq_true hql,decide_eq_true (p:=q+1≠l.length) (by rw[GB.out.2];exact e5)];rfl
    have HR:=hid hr;have d9:((q:Int)+1 != (s.size:Int))=true:=by simp;omega
    clear hr hho hv hv2 e5 v1 v2 hqg hql;have r0:=br0.cell_ 0 _ rfl;have r1:=br0.cell_ 1 _ rfl;have r2:=br0.cell_ 2 _ rfl;have r3:=br0.cell_ 3 _ rfl;have g0:=br0.frozen 0;have g1:=br0.frozen 1;have g2:=br0.frozen 2;have g3:=br0.frozen 3;go_enter Tryz.func126,Tryz.ntmps126;go_wp2_with fail;refine (C1.out _).mono ?_;rintro e w1 ⟨A1,c1,rfl,hi1,hn1,hb1⟩;have br1:=br0.below hb1 br0.lt;have hO1:=hO.trans (hb1.mono hO.size);have hnb:NewA (w.heap.size+1) A1:=hn1.mono (by simp);clear r0 r1 r2 r3 g0 g1 g2 g3;have r0:=br1.cell_ 0 _ rfl;have r1:=br1.cell_ 1 _ rfl;have r2:=br1.cell_ 2 _ rfl;have r3:=br1.cell_ 3 _ rfl;have g0:=br1.frozen 0;have g1:=br1.frozen 1;have g2:=br1.frozen 2;have g3:=br1.frozen 3;go_wp2_with fail;refine (C2.out _).mono ?_;rintro e w2 ⟨A2,c2,rfl,hi2,hn2,hb2⟩;have br2:=br1.below hb2 br1.lt;have hO2:=hO1.trans (hb2.mono hO1.size);have hi1':=hi1.ext hb2;have hns:NewA (w.heap.size+1) A2:=hn2.mono (Nat.succ_le_of_lt br1.lt);go_wp2_with fail;refine (rmoore_one _).mono ?_;rintro e w3 ⟨A3,c3,rfl,hp3,hn3,hb3⟩;have br3:=br2.below hb3 br2.lt;have hO3:=hO2.trans (hb3.mono hO2.size);have hi1'':=hi1'.ext hb3;have hi2':=hi2.ext hb3;have hnp3:NewA (w.heap.size+1) A3:=hn3.mono (Nat.succ_le_of_lt br2.lt);clear r0 r1 r2 r3 g0 g1 g2 g3;have r0:=br3.cell_ 0 _ rfl;have r1:=br3.cell_ 1 _ rfl;have r2:=br3.cell_ 2 _ rfl;have r3:=br3.cell_ 3 _ rfl;have g0:=br3.frozen 0;have g1:=br3.frozen 1;have g2:=br3.frozen 2;have g3:=br3.frozen 3;go_wp2_with fail;refine (rhex_any _).mono ?_;rintro e w4 ⟨A4,c4,rfl,hp4,hn4,hb4⟩;have br:=br3.below hb4 br3.lt;have hO4:=hO3.trans (hb4.mono hO3.size);have hb1_:=hi1''.ext hb4;have hs1:=hi2'.ext hb4;have hp:=hp4;have hnp:NewA (w.heap.size+1) A4:=hn4.mono (Nat.succ_le_of_lt br3.lt);clear r0 r1 r2 r3 g0 g1 g2 g3;have r0:=br.cell_ 0 _ rfl;have r1:=br.cell_ 1 _ rfl;have r2:=br.cell_ 2 _ rfl;have r3:=br.cell_ 3 _ rfl;have g0:=br.frozen 0;have g1:=br.frozen 1;have g2:=br.frozen 2;have g3:=br.frozen 3;go_wp2;refine bodyPost_ret (v:=.tuple #[.agg #[.slice none 0 0,.int .i64 0,.slice none 0 0,.slice none 0 0],.int .i64 15]) (by simp[results,Tryz.results126,go_sem,r0,r1,r2,r3]) rfl ?_;rw[HR.out];first | exact⟨none,0,none,0,none,0,rfl,TotR.zero _,below_set4 hO4 (Nat.le_refl _) _ _ _ _⟩ | exact⟨none,0,none,0,none,0,rfl,TotR.zero _,hO4⟩
  ·have d7:((s[q].toNat:Int) == 72)=false:=by simpa using v2
   have d7':((s[q].toNat:Int) != 72)=true:=by simpa using v2
   have hv2:¬ l.getD q 0=72:=by rw[hqg];exact fun h=>v2 ((u8_is rfl).1 h)
   have hr:rparseL8 l=(zeroT,15):=by
    rw[HR1.out];unfold endR badR;rw[decide_eq_true hql,decide_eq_true (p:=l.getD q 0≠86) hv,decide_eq_true (p:=l.getD q 0≠72) hv2]
    simp
   have HR:=hid hr;clear hr hv hv2 v1 v2 hqg hql;by_cases e5:q+1=s.size
   ·have d9:((q:Int)+1 != (s.size:Int))=false:=by simp;omega
    clear e5;have r0:=br0.cell_ 0 _ rfl;have r1:=br0.cell_ 1 _ rfl;have r2:=br0.cell_ 2 _ rfl;have r3:=br0.cell_ 3 _ rfl;have g0:=br0.frozen 0;have g1:=br0.frozen 1;have g2:=br0.frozen 2;have g3:=br0.frozen 3;go_enter Tryz.func126,Tryz.ntmps126;go_wp2_with fail;refine (C1.out _).mono ?_;rintro e w1 ⟨A1,c1,rfl,hi1,hn1,hb1⟩;have br1:=br0.below hb1 br0.lt;have hO1:=hO.trans (hb1.mono hO.size);have hnb:NewA (w.heap.size+1) A1:=hn1.mono (by simp);clear r0 r1 r2 r3 g0 g1 g2 g3;have r0:=br1.cell_ 0 _ rfl;have r1:=br1.cell_ 1 _ rfl;have r2:=br1.cell_ 2 _ rfl;have r3:=br1.cell_ 3 _ rfl;have g0:=br1.frozen 0;have g1:=br1.frozen 1;have g2:=br1.frozen 2;have g3:=br1.frozen 3;go_wp2_with fail;refine (C2.out _).mono ?_;rintro e w2 ⟨A2,c2,rfl,hi2,hn2,hb2⟩;have br2:=br1.below hb2 br1.lt;have hO2:=hO1.trans (hb2.mono hO1.size);have hi1':=hi1.ext hb2;have hns:NewA (w.heap.size+1) A2:=hn2.mono (Nat.succ_le_of_lt br1.lt);go_wp2_with fail;refine (rmoore_one _).mono ?_;rintro e w3 ⟨A3,c3,rfl,hp3,hn3,hb3⟩;have br3:=br2.below hb3 br2.lt;have hO3:=hO2.trans (hb3.mono hO2.size);have hi1'':=hi1'.ext hb3;have hi2':=hi2.ext hb3;have hnp3:NewA (w.heap.size+1) A3:=hn3.mono (Nat.succ_le_of_lt br2.lt);clear r0 r1 r2 r3 g0 g1 g2 g3;have r0:=br3.cell_ 0 _ rfl;have r1:=br3.cell_ 1 _ rfl;have r2:=br3.cell_ 2 _ rfl;have r3:=br3.cell_ 3 _ rfl;have g0:=br3.frozen 0;have g1:=br3.frozen 1;have g2:=br3.frozen 2;have g3:=br3.frozen 3;go_wp2;refine bodyPost_ret (v:=.tuple #[.agg #[.slice none 0 0,.int .i64 0,.slice none 0 0,.slice none 0 0],.int .i64 15]) (by simp[results,Tryz.results126,go_sem,r0,r1,r2,r3]) rfl ?_;rw[HR.out];first | exact⟨none,0,none,0,none,0,rfl,TotR.zero _,below_set4 hO3 (Nat.le_refl _) _ _ _ _⟩ | exact⟨none,0,none,0,none,0,rfl,TotR.zero _,hO3⟩
   ·have d9:((q:Int)+1 != (s.size:Int))=true:=by simp;omega
    clear e5;have r0:=br0.cell_ 0 _ rfl;have r1:=br0.cell_ 1 _ rfl;have r2:=br0.cell_ 2 _ rfl;have r3:=br0.cell_ 3 _ rfl;have g0:=br0.frozen 0;have g1:=br0.frozen 1;have g2:=br0.frozen 2;have g3:=br0.frozen 3;go_enter Tryz.func126,Tryz.ntmps126;go_wp2_with fail;refine (C1.out _).mono ?_;rintro e w1 ⟨A1,c1,rfl,hi1,hn1,hb1⟩;have br1:=br0.below hb1 br0.lt;have hO1:=hO.trans (hb1.mono hO.size);have hnb:NewA (w.heap.size+1) A1:=hn1.mono (by simp);clear r0 r1 r2 r3 g0 g1 g2 g3;have r0:=br1.cell_ 0 _ rfl;have r1:=br1.cell_ 1 _ rfl;have r2:=br1.cell_ 2 _ rfl;have r3:=br1.cell_ 3 _ rfl;have g0:=br1.frozen 0;have g1:=br1.frozen 1;have g2:=br1.frozen 2;have g3:=br1.frozen 3;go_wp2_with fail;refine (C2.out _).mono ?_;rintro e w2 ⟨A2,c2,rfl,hi2,hn2,hb2⟩;have br2:=br1.below hb2 br1.lt;have hO2:=hO1.trans (hb2.mono hO1.size);have hi1':=hi1.ext hb2;have hns:NewA (w.heap.size+1) A2:=hn2.mono (Nat.succ_le_of_lt br1.lt);go_wp2_with fail;refine (rmoore_one _).mono ?_;rintro e w3 ⟨A3,c3,rfl,hp3,hn3,hb3⟩;have br3:=br2.below hb3 br2.lt;have hO3:=hO2.trans (hb3.mono hO2.size);have hi1'':=hi1'.ext hb3;have hi2':=hi2.ext hb3;have hnp3:NewA (w.heap.size+1) A3:=hn3.mono (Nat.succ_le_of_lt br2.lt);clear r0 r1 r2 r3 g0 g1 g2 g3;have r0:=br3.cell_ 0 _ rfl;have r1:=br3.cell_ 1 _ rfl;have r2:=br3.cell_ 2 _ rfl;have r3:=br3.cell_ 3 _ rfl;have g0:=br3.frozen 0;have g1:=br3.frozen 1;have g2:=br3.frozen 2;have g3:=br3.frozen 3;go_wp2;refine bodyPost_ret (v:=.tuple #[.agg #[.slice none 0 0,.int .i64 0,.slice none 0 0,.slice none 0 0],.int .i64 15]) (by simp[results,Tryz.results126,go_sem,r0,r1,r2,r3]) rfl ?_;rw[HR.out];first | exact⟨none,0,none,0,none,0,rfl,TotR.zero _,below_set4 hO3 (Nat.le_refl _) _ _ _ _⟩ | exact⟨none,0,none,0,none,0,rfl,TotR.zero _,hO3⟩
end Go.Proofs.YtcfelnhmifkelaaGreatDoor
namespace Go.Proofs.YtcfelnhmifkelaaGreatDoor
set_option maxRecDepth 100000
open Go.RowKit
set_option linter.unusedVariables false
set_option linter.unusedSimpArgs false

theorem isDig_le {c:UInt8}(h:isDig8 c=true):0≤digOf8 c∧digOf8 c≤9:=by
 unfold isDig8 at h;simp at h;unfold digOf8;omega
theorem digAsc_cons (last:Int)(c:UInt8)(l:List UInt8):digAsc8 last (c :: l)=if isDig8 c && decide (last < digOf8 c) then digOf8 c :: digAsc8 (digOf8 c) l else []:=rfl
theorem dig_full:∀ (l:List UInt8)(last:Int),(digAsc8 last l).length=l.length→l.all isDig8=true∧asc last 9 (l.map digOf8)=true∧digAsc8 last l=l.map digOf8
 | [],last,_=>⟨rfl,rfl,rfl⟩
 | c :: l,last,h=>by
  rw[digAsc_cons] at h ⊢;by_cases hc:(isDig8 c && decide (last < digOf8 c))=true
  ·rw[if_pos hc] at h ⊢;obtain⟨i1,i2,i3⟩:=dig_full l (digOf8 c) (by simpa using h);rw[Bool.and_eq_true] at hc;refine⟨by simp[hc.1];simpa using i1,?_,by rw[i3];rfl⟩;show (decide (last < digOf8 c) && decide (digOf8 c≤9) && asc (digOf8 c) 9 (l.map digOf8))=true;rw[hc.2,decide_eq_true (isDig_le hc.1).2,i2];rfl
  ·rw[if_neg hc] at h;simp at h
theorem dig_full_of:∀ (l:List UInt8)(last:Int),l.all isDig8=true→asc last 9 (l.map digOf8)=true→digAsc8 last l=l.map digOf8
 | [],last,_,_=>rfl
 | c :: l,last,h1,h2=>by
  have h2':(decide (last < digOf8 c) && decide (digOf8 c≤9) && asc (digOf8 c) 9 (l.map digOf8))=true:=h2;simp only[List.all_cons,Bool.and_eq_true] at h1 h2';rw[digAsc_cons,if_pos (by rw[h1.1,h2'.1.1];rfl),dig_full_of l _ h1.2 h2'.2];rfl
theorem digL_yes {l:List UInt8}(h:(digAsc8 (-1) l).length=l.length):digL l=(digAsc8 (-1) l,true):=by
 obtain⟨h1,h2,h3⟩:=dig_full l (-1) h;unfold digL;rw[if_pos h1,h2,h3]
theorem digL_no {l:List UInt8}(h:¬ (digAsc8 (-1) l).length=l.length):(digL l).2=false:=by
 unfold digL
 split
 ·rename_i h1;cases h2:asc (-1) 9 (l.map digOf8)
  ·rfl
  ·exact absurd (by rw[dig_full_of l (-1) h1 h2,List.length_map]) h
 ·rfl
theorem digAsc_stop {c:UInt8}(hc:isDig8 c=false)(y:List UInt8):∀ (x:List UInt8)(last:Int),digAsc8 last (x ++ c :: y)=digAsc8 last x
 | [],last=>by rw[List.nil_append,digAsc_cons,hc];rfl
 | e :: x,last=>by
  rw[List.cons_append,digAsc_cons,digAsc_cons,digAsc_stop hc y x]
theorem digAsc_take8:∀ (l:List UInt8)(last:Int),digAsc8 last (l.take (digAsc8 last l).length)=digAsc8 last l
 | [],last=>rfl
 | c :: l,last=>by
  by_cases hc:(isDig8 c && decide (last < digOf8 c))=true
  ·have e:digAsc8 last (c :: l)=digOf8 c :: digAsc8 (digOf8 c) l:=by rw[digAsc_cons,if_pos hc]
   rw[e,List.length_cons,List.take_succ_cons,digAsc_cons,if_pos hc,digAsc_take8 l (digOf8 c)]
  ·have e:digAsc8 last (c :: l)=[]:=by rw[digAsc_cons,if_neg hc]
   rw[e];rfl
theorem dig_no_slash {c:UInt8}(h:isDig8 c=true):c≠47:=by
 rintro rfl
 revert h;decide
theorem index_at (z:List UInt8):∀ x:List UInt8,x.all isDig8=true→Lib.index (x ++ 47 :: 83 :: z) [47,83]=x.length
 | [],_=>by simp[Lib.index,List.isPrefixOf]
 | c :: x,h=>by
  simp only[List.all_cons,Bool.and_eq_true] at h;have hn:=dig_no_slash h.1;have hi:=index_at z x h.2;have hp:List.isPrefixOf [47,83] (c :: (x ++ 47 :: 83 :: z))=false:=by
   simp[List.isPrefixOf,hn,Ne.symm hn]
  rw[List.cons_append,Lib.index,hp,hi];have:((x.length:Int) == -1)=false:=by simp
  rw[this];simp
theorem index_split:∀ s:List UInt8,0≤Lib.index s [47,83]→s=s.take (Lib.index s [47,83]).toNat ++ 47 :: 83 :: s.drop ((Lib.index s [47,83]).toNat+2)
 | [],h=>by simp[Lib.index] at h
 | b :: l,h=>by
  unfold Lib.index at h ⊢;by_cases hp:List.isPrefixOf [47,83] (b :: l)=true
  ·rw[if_pos hp];obtain⟨t,ht⟩:=List.isPrefixOf_iff_prefix.1 hp;simp only[List.cons_append,List.nil_append] at ht;rw[← ht];simp
  ·rw[if_neg hp] at h ⊢;by_cases hm:(Lib.index l [47,83] == -1)=true
   ·rw[if_pos hm] at h;omega
   ·rw[if_neg hm] at h ⊢;have hge:=Lib.index_ge l [47,83];have h0:0≤Lib.index l [47,83]:=by
     have:Lib.index l [47,83]≠-1:=by simpa using hm
     omega
    have ih:=index_split l h0;have e:(Lib.index l [47,83]+1).toNat=(Lib.index l [47,83]).toNat+1:=by omega
    rw[e,List.take_succ_cons,show (Lib.index l [47,83]).toNat+1+2=((Lib.index l [47,83]).toNat+2)+1 from by omega,List.drop_succ_cons,List.cons_append,← ih]
theorem cut3_yes {x z:List UInt8}(h:x.all isDig8=true):cut3 (x ++ 47 :: 83 :: z)=(x,z,true):=by
 unfold cut3 Lib.cut;rw[index_at z x h];have h0:(0:Int)≤x.length:=by omega
 rw[if_pos h0]
 simp
theorem cut3_split {l:List UInt8}(h:(cut3 l).2.2=true):l=(cut3 l).1 ++ 47 :: 83 :: (cut3 l).2.1:=by
 unfold cut3 Lib.cut at h ⊢;by_cases h0:0≤Lib.index l [47,83]
 ·rw[if_pos h0];exact index_split l h0
 ·rw[if_neg h0] at h;cases h
theorem endP_fit (b c:List Int){h:List (Int × Int)} (hk:knownB h=true):endP (b,true) (c,true) h=fitR b c h:=by
 unfold endP fitR rightT;simp only[hk,if_true];have e1:decide ((2:Int)≤2)=true:=rfl;have e2:decide ((2:Int)≤8)=true:=rfl;rw[e1,e2];simp only[Bool.true_and]
theorem endP_no (b:List Int × Bool){s:List Int × Bool}(h:List (Int × Int)) (hs:s.2=false):endP b s h=(zeroT,15):=by
 unfold endP;rw[hs];cases b.2 <;> rfl
theorem endP_no1 {b:List Int × Bool}(s:List Int × Bool)(h:List (Int × Int)) (hb:b.2=false):endP b s h=(zeroT,15):=by
 unfold endP;rw[hb];rfl
def tailT (b c:List Int)(y:List UInt8):TotL × Int:=
 if y=[] then fitR b c (mooreL 1) else if y=[86] then fitR b c (neumL 1) else if y=[72] then fitR b c hexL else (zeroT,15)
theorem known_moore:knownB (mooreL 1)=true:=by decide
theorem known_neum:knownB (neumL 1)=true:=by decide
theorem known_hex:knownB hexL=true:=by decide
theorem tail_of (z:List UInt8)(e:UInt8):Lib.hasSuffix z [e]=true ↔ ∃ x,z=x ++ [e]:=by
 unfold Lib.hasSuffix;rw[List.isSuffixOf_iff_suffix];exact⟨fun ⟨x,h⟩=>⟨x,h.symm⟩,fun ⟨x,h⟩=>⟨x,h.symm⟩⟩
theorem trim_of (x:List UInt8)(e:UInt8):Lib.trimSuffix (x ++ [e]) [e]=x:=by
 unfold Lib.trimSuffix;rw[if_pos ((tail_of _ _).2 ⟨x,rfl⟩)]
 simp
theorem tail_parse (b:List Int)(z:List UInt8):endP (b,true) (digL (hoodP8 z).1) (hoodP8 z).2=tailT b (digAsc8 (-1) z) (z.drop (digAsc8 (-1) z).length):=by
 have letter:∀ (e:UInt8) (x:List UInt8),isDig8 e=false→(∀ u v:UInt8,True)→(digAsc8 (-1) (x ++ [e]))=digAsc8 (-1) x:=fun e x he _=>digAsc_stop he [] x (-1);have one:∀ (e:UInt8) (x:List UInt8) (h:List (Int × Int)),isDig8 e=false→knownB h=true→(digAsc8 (-1) x).length=x.length→
   endP (b, true) (digL x) h = fitR b (digAsc8 (-1) (x ++ [e])) h ∧ (x ++ [e]).drop (digAsc8 (-1) (x ++ [e])).length = [e] := by
  intro e x h he hk hf;rw[letter e x he (fun _ _=>trivial),digL_yes hf,endP_fit _ _ hk,hf];exact⟨rfl,by simp⟩
 have two:∀ (e:UInt8) (x:List UInt8),isDig8 e=false→¬ (digAsc8 (-1) x).length=x.length→∃ u v w,(x ++ [e]).drop (digAsc8 (-1) (x ++ [e])).length=u :: v :: w:=by
  intro e x he hf;rw[letter e x he (fun _ _=>trivial)];have hle:=digAsc_le8 x (-1);have hlt:(digAsc8 (-1) x).length < x.length:=by omega
  rw[List.drop_append_of_le_length hle,List.drop_eq_getElem_cons hlt];cases hd:x.drop ((digAsc8 (-1) x).length+1) with
  | nil=>exact⟨_,e,[],rfl⟩
  | cons a r=>exact⟨_,a,r ++ [e],rfl⟩
 unfold hoodP8;by_cases hV:tailV8 z=true
 ·rw[if_pos hV];obtain⟨x,rfl⟩:=(tail_of z 86).1 hV;have ec:cutV8 (x ++ [86])=x:=trim_of x 86;simp only[ec];by_cases hf:(digAsc8 (-1) x).length=x.length
  ·obtain⟨g1,g2⟩:=one 86 x (neumL 1) (by decide) known_neum hf;rw[g1,g2];unfold tailT;rw[if_neg (by simp),if_pos rfl]
  ·obtain⟨u,v,w,hd⟩:=two 86 x (by decide) hf;rw[endP_no _ _ (digL_no hf),hd];unfold tailT;rw[if_neg (by simp),if_neg (by simp),if_neg (by simp)]
 ·rw[if_neg hV];by_cases hH:tailH8 z=true
  ·rw[if_pos hH];obtain⟨x,rfl⟩:=(tail_of z 72).1 hH;have ec:cutH8 (x ++ [72])=x:=trim_of x 72;simp only[ec];by_cases hf:(digAsc8 (-1) x).length=x.length
   ·obtain⟨g1,g2⟩:=one 72 x hexL (by decide) known_hex hf;rw[g1,g2];unfold tailT;rw[if_neg (by simp),if_neg (by decide),if_pos rfl]
   ·obtain⟨u,v,w,hd⟩:=two 72 x (by decide) hf;rw[endP_no _ _ (digL_no hf),hd];unfold tailT;rw[if_neg (by simp),if_neg (by simp),if_neg (by simp)]
  ·rw[if_neg hH];simp only[];by_cases hf:(digAsc8 (-1) z).length=z.length
   ·rw[digL_yes hf,endP_fit _ _ known_moore];unfold tailT;rw[if_pos (by rw[hf];simp)]
   ·rw[endP_no _ _ (digL_no hf)];unfold tailT;have hle:=digAsc_le8 z (-1);have hlt:(digAsc8 (-1) z).length < z.length:=by omega
    rw[if_neg (by intro h;have:=congrArg List.length h;simp at this;omega),if_neg,if_neg]
    ·intro h;exact hH ((tail_of z 72).2 ⟨z.take (digAsc8 (-1) z).length,by rw[← h,List.take_append_drop]⟩)
    ·intro h;exact hV ((tail_of z 86).2 ⟨z.take (digAsc8 (-1) z).length,by rw[← h,List.take_append_drop]⟩)
theorem getD_drop (l:List UInt8)(q:Nat):l.getD q 0=(l.drop q).getD 0 0:=by simp[List.getD]
theorem tail_ref (l:List UInt8)(b c:List Int)(q:Nat):endR l b c q=tailT b c (l.drop q):=by
 have hl:(l.drop q).length=l.length - q:=by simp
 unfold endR badR hoodR tailT;rw[getD_drop];cases hy:l.drop q with
 | nil=>
  rw[hy] at hl;have h1:¬ q < l.length:=by simp at hl;omega
  simp[h1]
 | cons e r=>
  rw[hy] at hl;have h1:q < l.length:=by simp at hl;omega
  cases r with
  | nil=>
   have h2:q+1=l.length:=by simp at hl;omega
   simp only[List.getD_cons_zero];by_cases hv:e=86
   ·subst hv;simp[h1,h2]
   ·by_cases hh:e=72
    ·subst hh;simp[h1,h2]
    ·simp[h1,h2,hv,hh]
  | cons f r=>
   have h2:¬ q+1=l.length:=by simp at hl;omega
   simp[h1,h2]
theorem parse_eq8 (l:List UInt8):parseL8 l=rparseL8 l:=by
 unfold parseL8 rparseL8;cases l with
 | nil=>rfl
 | cons a r=>
  by_cases ha:a=66
  ·subst ha;have hs:startB8 (66 :: r)=true:=by simp[startB8,Lib.hasPrefix,List.isPrefixOf]
   have hr:restB8 (66 :: r)=r:=by simp[restB8,Lib.trimPrefix,Lib.hasPrefix,List.isPrefixOf]
   rw[hs,hr];have hd:(66 :: r:List UInt8).drop 1=r:=rfl;have hc0:(decide ((66 :: r:List UInt8).length=0) || decide ((66 :: r:List UInt8).getD 0 0≠66))=false:=by simp
   rw[hc0,hd];simp only[if_true,Bool.false_eq_true,if_false];have hk:=digAsc_le8 r (-1);have hx:=digAsc_take8 r (-1);obtain⟨k,hkk⟩:∃ k,(digAsc8 (-1) r).length=k:=⟨_,rfl⟩
   rw[hkk] at hk hx ⊢;have hfull:(digAsc8 (-1) (r.take k)).length=(r.take k).length:=by rw[hx,hkk];simp;omega
   obtain⟨hall,-,-⟩:=dig_full _ _ hfull;have hdd:∀ n,(66 :: r:List UInt8).drop (1+k+n)=r.drop (k+n):=fun n=>by
    rw[show 1+k+n=(k+n)+1 from by omega,List.drop_succ_cons]
   have g0:(66 :: r:List UInt8).getD (1+k) 0=(r.drop k).getD 0 0:=by
    rw[getD_drop];have:=hdd 0;simp only[Nat.add_zero] at this;rw[this]
   have g1:(66 :: r:List UInt8).getD (1+k+1) 0=(r.drop k).getD 1 0:=by
    rw[getD_drop,hdd 1];simp[List.getD]
   have hlen:(66 :: r:List UInt8).length=(r.drop k).length+k+1:=by simp;omega
   by_cases hsl:∃ z,r.drop k=47 :: 83 :: z
   ·obtain⟨z,hz⟩:=hsl;have er:r=r.take k ++ 47 :: 83 :: z:=by rw[← hz,List.take_append_drop]
    have hcut:cut3 r=(r.take k,z,true):=by
     conv=>lhs;rw[er]
     exact cut3_yes hall
    rw[hcut];simp only[if_true];rw[digL_yes hfull,hx,tail_parse];unfold midR;rw[g0,g1,hlen,hz];have hcond:(decide ((47 :: 83 :: z:List UInt8).length+k+1≤1+k+1) || decide ((47 :: 83 :: z:List UInt8).getD 0 0≠47) || decide ((47 :: 83 :: z:List UInt8).getD 1 0≠83))=false:=by
     have:¬ (47 :: 83 :: z:List UInt8).length+k+1≤1+k+1:=by simp <;> omega
     simp[this]
    rw[hcond];simp only[Bool.false_eq_true,if_false];have hz2:(66 :: r:List UInt8).drop (1+k+2)=z:=by
     rw[hdd 2,← List.drop_drop,hz];rfl
    rw[hz2,tail_ref];have:(66 :: r:List UInt8).drop (1+k+2+(digAsc8 (-1) z).length)=z.drop (digAsc8 (-1) z).length:=by
     rw[← List.drop_drop,hz2]
    rw[this]
   ·have hR:midR (66 :: r) (digAsc8 (-1) r) (1+k)=(zeroT,15):=by
     unfold midR;rw[if_pos];rw[g0,g1,hlen];cases hy:r.drop k with
     | nil=>simp <;> omega
     | cons u v=>
      cases v with
      | nil=>simp <;> omega
      | cons v w=>
       by_cases hu:u=47
       ·by_cases hv:v=83
        ·exact absurd ⟨w,by rw[hy,hu,hv]⟩ hsl
        ·simp[hv]
       ·simp[hu]
    rw[hR];cases hf:(cut3 r).2.2
    ·rfl
    ·simp only[if_true];have es:=cut3_split hf;by_cases hfu:(digAsc8 (-1) (cut3 r).1).length=(cut3 r).1.length
     ·exfalso;have e1:digAsc8 (-1) r=digAsc8 (-1) (cut3 r).1:=by
       conv=>lhs;rw[es]
       exact digAsc_stop (by decide) _ _ _
      rw[e1,hfu] at hkk;apply hsl;refine⟨(cut3 r).2.1,?_⟩
      conv=>lhs;rw[es]
      rw[← hkk]
      simp
     ·exact endP_no1 _ _ (digL_no hfu)
  ·have hs:startB8 (a :: r)=false:=by
    simp[startB8,Lib.hasPrefix,List.isPrefixOf];exact fun h=>ha h.symm
   rw[hs];simp[ha]
end Go.Proofs.YtcfelnhmifkelaaGreatDoor
