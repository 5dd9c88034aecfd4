/-
  texts Read Pars: parts of the proof; conditions stand with each theorem.
-/
import Derived.Test.YtcfelnhmifkelaaGreatDoorUHdr
import Derived.Lib.OthersKept
import Derived.Laws.RangeAny
import Derived.Deep.CutRange
namespace Go.Proofs.YtcfelnhmifkelaaGreatDoor
open Lib(hid)
open Go.RowKit
set_option maxRecDepth 100000
set_option linter.unusedVariables false
set_option linter.unusedSimpArgs false

theorem Tryz.infoCell:(Tryz.prog.info? 114).map (fun i=>(i.zero,i.size,i.bytes))=some (some (.agg #[.int .i64 0,.int .i64 0,.int .i64 0]),3,24):=by kernel_rfl
def RetRead (r:List Cel × Int)(w:World)(e:Ending)(w':World):Prop:=∃ A c,e=.returned (.tuple #[.slice A r.1.length c,.int .i64 r.2])∧Cls w' A r.1∧Below w.heap.size w w'∧NewA w.heap.size A
theorem RetRead.bad {r:List Cel × Int}{k:Int}{w w':World}(h:r=([],k)) (hb:Below w.heap.size w w'):RetRead r w (.returned (.tuple #[.slice none 0 0,.int .i64 k])) w':=by
 subst h;exact⟨none,0,rfl,Cls.nil,hb,NewA.none_ _⟩
theorem iterPos_of {w:World}{k:Nat}{s:ByteArray}{p:Nat}(h:w.heap[k]?=some (.stringIter s p)):w.iterPos k=p:=by simp[World.iterPos,h]
theorem ownC_iter {w:World}{e:TypeId}{B:Nat}{v:Value}{l:List Cel}{k:Nat}{s:ByteArray}{pos:Nat}(h:OwnC e w B v l)(hk:w.heap[k]?=some (.stringIter s pos)) (pos':Nat):OwnC e (w.iterAt k s pos') B v l:=by
 refine⟨h.1,?_⟩;rcases h.2 with h0 | ⟨g,cap,cur,hv,hb,hg,rest⟩
 ·exact .inl h0
 ·refine .inr ⟨g,cap,cur,hv,hb,?_,rest⟩;rw[Lib.iterAt_other _ _ _ _ _ (fun e=>by subst e;rw[hk] at hg;cases hg)];exact hg
structure RdI (l:List UInt8)(wd ht:Int)(pos:Nat)(ds:List UInt8)(p:PS):Prop where
 x0:0≤p.x
 x1:p.x≤10000000*pos
 y0:0≤p.y
 y1:p.y≤10000000*pos
 n:p.out.length≤5000
 d7:ds.length≤7
 dp:ds.length≤pos
 dd:∀ c ∈ ds,isDig c=true
 d0:ds≠[]→ds.headD 0≠48
 dr:l.drop (pos - ds.length)=ds ++ l.drop pos
 m:readM wd ht l [] ps0=readM wd ht (l.drop pos) ds p
theorem RdI.blank {l:List UInt8}{wd ht:Int}{pos:Nat}{p:PS}(h:RdI l wd ht pos [] p){b:UInt8}(hb:l.drop pos=b :: l.drop (pos+1)) (hc:b=32∨b=10):RdI l wd ht (pos+1) [] p:=
 ⟨h.x0,by have:=h.x1;omega,h.y0,by have:=h.y1;omega,h.n,by simp,by simp,(fun c hc=>by cases hc),fun h=>absurd rfl h,rfl,by rw[h.m,hb,rd_blank hc]⟩
theorem RdI.digit {l:List UInt8}{wd ht:Int}{pos:Nat}{ds:List UInt8}{p:PS}(h:RdI l wd ht pos ds p){b:UInt8}(hb:l.drop pos=b :: l.drop (pos+1)) (hd:isDig b=true)(h2:¬ ((ds ++ [b]).headD 0=48∨7≤ds.length)):RdI l wd ht (pos+1) (ds ++ [b]) p:=by
 refine⟨h.x0,by have:=h.x1;omega,h.y0,by have:=h.y1;omega,h.n,by simp;omega,by have:=h.dp;simp;omega,?_,fun _ hh=>h2 (.inl hh),?_,by rw[h.m,hb,rd_dig hd h2]⟩
 ·intro c hc;rw[List.mem_append,List.mem_singleton] at hc;rcases hc with hc | rfl
  ·exact h.dd c hc
  ·exact hd
 ·have:=h.dr;rw[hb] at this;rw[List.length_append,List.length_singleton,show pos+1 - (ds.length+1)=pos - ds.length by omega,this]
  simp
theorem RdI.next {l:List UInt8}{wd ht:Int}{pos:Nat}{ds:List UInt8}{p:PS}(h:RdI l wd ht pos ds p){b:UInt8}{k n:Int}{q:PS}(hb:l.drop pos=b :: l.drop (pos+1)) (hd:isDig b=false)(h2:ds=[]→¬ (b=32∨b=10)∧¬ b=33)
  (hk:stateC b.toNat=k) (hk2:¬ k = -2) (hn:runN ds=n) (hn0:0≤n) (hn1:n≤10000000) (hs:stepP wd ht p k n=(q,0)):RdI l wd ht (pos+1) [] q:=by
 have hm:readM wd ht l [] ps0=readM wd ht (l.drop (pos+1)) [] q:=by
  rw[h.m,hb,rd_step hd h2 (by rw[hk];exact hk2) (by rw[hk,hn,hs]),hk,hn,hs]
 have hx:=h.x0;have hx1:=h.x1;have hy:=h.y0;have hy1:=h.y1;have hc:=h.n;have key:0≤q.x∧q.x≤10000000*((pos:Int)+1)∧0≤q.y∧q.y≤10000000*((pos:Int)+1)∧q.out.length≤5000:=by
  by_cases k0:k < 0
  ·rw[st_line k0] at hs;injection hs with hs _
   subst hs;dsimp only;omega
  ·by_cases k1:0 < k
   ·by_cases k2:wd < p.x+n∨ht≤p.y
    ·rw[st_far k1 k2] at hs;injection hs with _ hs
     omega
    ·by_cases k3:5000 < (p.out.length:Int)+n
     ·rw[st_many k1 k2 k3] at hs;injection hs with _ hs
      omega
     ·rw[st_push k1 k2 k3] at hs;injection hs with hs _
      subst hs;dsimp only;rw[List.length_append,cellsP_len];omega
   ·rw[st_gap (by omega)] at hs;injection hs with hs _
    subst hs;dsimp only;omega
 exact⟨key.1,by have:=key.2.1;omega,key.2.2.1,by have:=key.2.2.2.1;omega,key.2.2.2.2,by simp,by simp,(fun c hc=>by cases hc),fun h=>absurd rfl h,rfl,hm⟩
theorem RdI.err {l:List UInt8}{wd ht:Int}{pos:Nat}{ds:List UInt8}{p:PS}(h:RdI l wd ht pos ds p){b:UInt8}{k n e:Int}{q:PS}(hb:l.drop pos=b :: l.drop (pos+1)) (hd:isDig b=false)(h2:ds=[]→¬ (b=32∨b=10)∧¬ b=33)
  (hk:stateC b.toNat=k) (hk2:¬ k = -2) (hn:runN ds=n) (hs:stepP wd ht p k n=(q,e)) (he:e≠0):readM wd ht l [] ps0=([],e):=by
 rw[h.m,hb,rd_err hd h2 (by rw[hk];exact hk2) (by rw[hk,hn,hs];exact he),hk,hn,hs]
theorem RdI.bad {l:List UInt8}{wd ht:Int}{pos:Nat}{ds:List UInt8}{p:PS}(h:RdI l wd ht pos ds p){b:UInt8}(hb:l.drop pos=b :: l.drop (pos+1)) (hd:isDig b=false)(h2:ds=[]→¬ (b=32∨b=10)∧¬ b=33)
  (hk:stateC b.toNat = -2):readM wd ht l [] ps0=([],15):=by
 rw[h.m,hb,rd_bad hd h2 hk]
theorem numT7 {ds:List UInt8}(h0:ds≠[])(h7:ds.length≤7)(hd:∀ c ∈ ds,isDig c=true)(h48:ds.headD 0≠48):numT 7 ds=(numL ds,true):=by
 unfold numT;rw[if_pos ⟨okN_yes (List.length_pos_iff.2 h0) h7 (fun h=>h48 h.2),List.all_eq_true.2 hd⟩]
theorem extract_ds {s:ByteArray}{l ds:List UInt8}(hl:l=s.data.toList){a b:Nat}(h:l.drop a=ds ++ l.drop b)(hab:a+ds.length=b):s.extract a b=⟨ds.toArray⟩:=by
 have h1:(s.extract a b).data.toList=ds:=by
  have h2:=Lib.extract_toList s a b;rw[ByteArray.toList_eq] at h2;rw[h2,← hl,h,show b - a=ds.length by omega,List.take_left]
 have h5:s.extract a b=⟨⟨(s.extract a b).data.toList⟩⟩:=rfl;rw[h5,h1]
theorem ne_byte {b:UInt8}{k:Nat}(hk:k < 256)(h:¬ b=UInt8.ofNat k):((b.toNat:Int) == (k:Int))=false:=by
 simp only[beq_eq_false_iff_ne,ne_eq];intro h2;exact h (UInt8.toNat_inj.1 (by rw[UInt8.toNat_ofNat'];omega))
theorem len9 {l:List Cel}{x y k:Int}{m n:Nat}(h1:l.length≤5000)(h2:m < n)(h3:n≤5000):(l ++ cellsP x y m k).length < 4294967296:=by
 rw[List.length_append,cellsP_len];omega
theorem meas_up3 {n k:Nat}(h:k < n):n - (intOf (.int .i64 ((k:Int)+1))).toNat < n - (intOf (.int .i64 (k:Int))).toNat:=by
 simp[intOf];omega
theorem Blt_of {w:World}{k:Nat}{x:Obj}(h:w.heap[k]?=some x):k < w.heap.size:=(Array.getElem?_eq_some_iff.1 h).1
theorem below_less {a b:Nat}{w w':World}(h:Below b w w')(hab:a≤b):Below a w w':=h.mono hab
set_option maxHeartbeats 16000000 in
theorem read_any (s:ByteArray)(wd ht:Int)(w:World)(hs:s.size≤65536)(hw0:0≤wd)(hw1:wd≤1000000000)(hh0:0≤ht)(hh1:ht≤1000000000) :
  Calls Tryz.prog 105 #[.string s,.int .i64 wd,.int .i64 ht] w (RetRead (readM wd ht s.data.toList [] ps0) w):=by
 obtain⟨l,hl⟩:∃ l,l=s.data.toList:=⟨_,rfl⟩
 have hgb:∀ j (h:j < s.size) (h':j < l.length),l[j]=s[j]:=by subst hl;exact get_byte s
 have hlen:l.length=s.size:=by rw[hl];rfl
 have HL:=hid hl;rw[← hl];have HG:=hid (And.intro hlen hgb);clear hl hgb hlen;have HWH:Hid (0≤wd∧wd≤1000000000∧0≤ht∧ht≤1000000000):=hid ⟨hw0,hw1,hh0,hh1⟩;clear hw0 hw1 hh0 hh1;go_enter Tryz.func105,Tryz.ntmps105;go_wp2;go_loopw [8,9,10,11,12,13,14,15,16] (fun out x y st _ _ _ _ _ wr=>∃ (pos:Nat) (ds:List UInt8) (p:PS),wr.heap[w.heap.size]?=some (.stringIter s pos)∧pos≤s.size∧OwnC 114 wr (w.heap.size+1) out p.out∧x=.int .i64 p.x∧y=.int .i64 p.y∧(ds=[]∧st=.int .i64 (-1)∨ds≠[]∧∃ st0:Nat,st0+ds.length=pos∧st=.int .i64 st0)∧Below w.heap.size w wr∧Hid (RdI l wd ht pos ds p)) (fun _ _ _ _ _ _ _ _ _ wr=>s.size - wr.iterPos w.heap.size)
 case atStart=>exact⟨0,[],ps0,World.iter_heap w s 0,Nat.zero_le _,OwnC.nil _ _ _,rfl,rfl,.inl ⟨rfl,rfl⟩,(Below.refl _ _).alloc (Nat.le_refl _) _,hid ⟨by decide,by simp[ps0],by decide,by simp[ps0],by simp[ps0],by simp,by simp,(fun c hc=>by cases hc),fun h=>absurd rfl h,rfl,rfl⟩⟩
 case round=>
  obtain⟨pos,ds,p,hit,hpos,hown,rfl,rfl,hst,hbw,HI⟩:=hrel;have hpos0:=iterPos_of hit;by_cases hp:pos < s.size
  ·have hnx:∀ ty,(Instr.next (.pointer (some ⟨w.heap.size,0,none⟩)) true ty).run Tryz.prog wr=_:=fun ty=>Lib.run_next_any_at wr w.heap.size s pos ty hit hp;have hp':pos < l.length:=by rw[HG.out.1];exact hp
   have HLD:Hid (l.drop pos=s[pos] :: l.drop (pos+1)):=hid (by rw[List.drop_eq_getElem_cons hp',HG.out.2 pos hp hp']);by_cases h128:s[pos].toNat < 128
   ·rw[decode_ascii s pos hp h128] at hnx;dsimp only at hnx;have hit2:=Lib.iterAt_heap wr w.heap.size s pos (pos+1) hit;have hbw2:=Lib.below_iterAt hbw (k:=w.heap.size) (Nat.le_refl _) s (pos+1);have hown2:=ownC_iter hown hit (pos+1);obtain⟨W1,hW1⟩:∃ W1,W1=wr.iterAt w.heap.size s (pos+1):=⟨_,rfl⟩
    rw[← hW1] at hnx hit2 hbw2 hown2;have hBlt:=Blt_of hit2;clear hW1 hit hown hbw;obtain⟨b,hb⟩:∃ b,b=s[pos]:=⟨_,rfl⟩
    rw[← hb] at hnx h128 HLD;have hdg:isDig b=(decide ((48:Int)≤b.toNat) && decide ((b.toNat:Int)≤57)):=rfl;have HD:=hid hdg;have HBE:=hid hb;clear hdg hb;by_cases h1:(48:Int)≤b.toNat∧(b.toNat:Int)≤57
    ·have d1:decide ((48:Int)≤b.toNat)=true:=decide_eq_true h1.1;have d2:decide ((b.toNat:Int)≤57)=true:=decide_eq_true h1.2;have HDG:Hid (isDig b=true):=hid (by rw[HD.out,d1,d2];rfl);rcases hst with ⟨rfl,rfl⟩ | ⟨hne,st0,hsp,rfl⟩
     ·have hz:wrap64 ((pos:Int) - (pos:Int))=0:=by unfold wrap64;omega
      have eb:s[pos]=b:=HBE.out.symm;by_cases h48:b=48
      ·have e48:((b.toNat:Int) == 48)=true:=by rw[h48];rfl
       have HN:Hid (readM wd ht l [] ps0=([],15)):=hid (by rw[HI.out.m,HLD.out,rd_dig_bad HDG.out (.inl (by rw[h48];rfl))]);clear h48;go_wp2;go_ret2;exact RetRead.bad HN.out hbw2
      ·have e48:((b.toNat:Int) == 48)=false:=ne_byte (k:=48) (by omega) h48;have HI2:=hid (HI.out.digit HLD.out HDG.out (by rintro (hh | hh);exact h48 hh;simp at hh));clear h48;go_wp2;go_roundw
       case rel=>exact⟨pos+1,[b],p,hit2,by omega,hown2,rfl,rfl,.inr ⟨by simp,pos,rfl,rfl⟩,hbw2,HI2⟩
       case measure=>rw[iterPos_of hit2,hpos0];omega
     ·have hsl:st0 < s.size:=by have:=List.length_pos_iff.2 hne;omega
      have hz:wrap64 ((pos:Int) - (st0:Int))=(pos:Int) - (st0:Int):=by unfold wrap64;omega
      have HS0:Hid (ds.headD 0=s[st0]):=hid (by
       have h2:=HI.out.dr;rw[show pos - ds.length=st0 by omega,List.drop_eq_getElem_cons (by rw[HG.out.1];exact hsl),HG.out.2 st0 hsl (by rw[HG.out.1];exact hsl)] at h2;cases ds with
       | nil=>exact absurd rfl hne
       | cons a q=>rw[List.cons_append] at h2;injection h2 with h3 _;exact h3.symm)
      have h48:¬ s[st0]=48:=by rw[← HS0.out];exact HI.out.d0 hne
      have e48:((s[st0].toNat:Int) == 48)=false:=ne_byte (k:=48) (by omega) h48;have dn:decide ((st0:Int) < 0)=false:=decide_eq_false (by omega);clear h48;by_cases h7:7≤ds.length
      ·have d7:decide ((7:Int)≤(pos:Int) - (st0:Int))=true:=decide_eq_true (by omega);have HN:Hid (readM wd ht l [] ps0=([],15)):=hid (by rw[HI.out.m,HLD.out,rd_dig_bad HDG.out (.inr h7)]);go_wp2;go_ret2;exact RetRead.bad HN.out hbw2
      ·have d7:decide ((7:Int)≤(pos:Int) - (st0:Int))=false:=decide_eq_false (by omega);have HI2:=hid (HI.out.digit HLD.out HDG.out (by
        rintro (hh | hh)
        ·refine HI.out.d0 hne ?_;cases ds with
         | nil=>exact absurd rfl hne
         | cons a q=>exact hh
        ·exact h7 hh))
       go_wp2;go_roundw
       case rel=>exact⟨pos+1,ds ++ [b],p,hit2,by omega,hown2,rfl,rfl,.inr ⟨by simp,st0,by simp;omega,rfl⟩,hbw2,HI2⟩
       case measure=>rw[iterPos_of hit2,hpos0];omega
    ·have HDG:Hid (isDig b=false):=hid (by
      rw[HD.out];by_cases hh:(48:Int)≤b.toNat
      ·rw[decide_eq_false (p:=(b.toNat:Int)≤57) (fun h=>h1 ⟨hh,h⟩),Bool.and_false]
      ·rw[decide_eq_false hh];rfl)
     have hbn:(b.toNat:Int)≤127:=by omega
     go_upto_region 6 with fail
     go_cut [28] from 19 to 115 (fun c wx=>c=.bool false∧wx=W1)
     case first=>
      by_cases hh:(48:Int)≤b.toNat
      ·have d1:decide ((48:Int)≤b.toNat)=true:=decide_eq_true hh;have d2:decide ((b.toNat:Int)≤57)=false:=decide_eq_false (fun h=>h1 ⟨hh,h⟩);go_wp2
       go_meet
       exact⟨rfl,rfl⟩
      ·have d1:decide ((48:Int)≤b.toNat)=false:=decide_eq_false hh;go_wp2
       go_meet
       exact⟨rfl,rfl⟩
     case rest=>
     obtain⟨hc28,hwc⟩:=hcut;have hwc2:=hwc.symm;subst hc28;clear hwc h1;subst hwc2;rcases hst with ⟨rfl,rfl⟩ | ⟨hne,st0,hsp,rfl⟩
     ·by_cases h32:b=32
      ·have HI2:=hid (HI.out.blank HLD.out (.inl h32));have e1:((b.toNat:Int) == 32)=true:=by rw[h32];rfl
       subst h32;go_wp2;go_roundw
       case rel=>exact⟨pos+1,[],p,hit2,by omega,hown2,rfl,rfl,.inl ⟨rfl,rfl⟩,hbw2,HI2⟩
       case measure=>rw[iterPos_of hit2,hpos0];omega
      ·by_cases h10:b=10
       ·have HI2:=hid (HI.out.blank HLD.out (.inr h10));subst h10;go_wp2;go_roundw
        case rel=>exact⟨pos+1,[],p,hit2,by omega,hown2,rfl,rfl,.inl ⟨rfl,rfl⟩,hbw2,HI2⟩
        case measure=>rw[iterPos_of hit2,hpos0];omega
       ·by_cases h33:b=33
        ·have HN:Hid (readM wd ht l [] ps0=(p.out,0)):=hid (by rw[HI.out.m,HLD.out,h33,rd_stop]);subst h33;obtain⟨A,c,rfl,hcl,hnw⟩:=hown2.cls;have HNW:=hid hnw;clear hnw;go_wp2;go_ret2;rw[HN.out];exact⟨A,c,rfl,hcl,hbw2,HNW.out.mono (Nat.le_succ _)⟩
        ·have H2:Hid (([]:List UInt8)=[]→¬ (b=32∨b=10)∧¬ b=33):=hid (fun _=>⟨fun h=>h.elim h32 h10,h33⟩);have e32:((b.toNat:Int) == 32)=false:=ne_byte (k:=32) (by omega) h32;have e10:((b.toNat:Int) == 10)=false:=ne_byte (k:=10) (by omega) h10;have e33:((b.toNat:Int) == 33)=false:=ne_byte (k:=33) (by omega) h33;clear h32 h10 h33;have HRN:Hid (runN []=1):=hid rfl;have HN01:Hid ((0:Int)≤1∧(1:Int)≤10000000):=hid (by omega);have HST:Hid (∀ w',Calls Tryz.prog 138 #[.int .i32 (b.toNat:Int)] w' fun e w''=>e=.returned (.int .i64 (stateC b.toNat))∧w''=w'):=hid (fun w'=>state_any (b.toNat:Int) w' (by omega) (by omega));have HKB:=hid (stateC_bd (b.toNat:Int));obtain⟨k,hk⟩:∃ k,k=stateC (b.toNat:Int):=⟨_,rfl⟩
         rw[← hk] at HST HKB;have HK:=hid hk.symm;clear hk;by_cases k2:k = -2
         ·have HN:Hid (readM wd ht l [] ps0=([],15)):=hid (HI.out.bad HLD.out HDG.out H2.out (by rw[HK.out,k2]));subst k2;go_wp2_with fail;refine (HST.out _).mono ?_;rintro e w1 ⟨rfl,hw1⟩;have hw2:=hw1.symm;clear hw1;subst hw2;go_wp2;go_ret2;exact RetRead.bad HN.out hbw2
         have k2e:(k == -2)=false:=by simpa using k2
         have HK2:=hid k2;clear k2;have HXB:Hid (0≤p.x∧p.x≤700000000000∧0≤p.y∧p.y≤700000000000∧p.out.length≤5000):=hid ⟨HI.out.x0,by have:=HI.out.x1;omega,HI.out.y0,by have:=HI.out.y1;omega,HI.out.n⟩;have hyn:wrap64 (p.y+1)=p.y+1:=by have:=HXB.out;have:=HN01.out;unfold wrap64;omega
         have hxn:wrap64 (p.x+1)=p.x+1:=by have:=HXB.out;have:=HN01.out;unfold wrap64;omega
         have hln:wrap64 ((p.out.length:Int)+1)=(p.out.length:Int)+1:=by have:=HXB.out;have:=HN01.out;unfold wrap64;omega
         by_cases k0:k < 0
         ·have dk0:decide (k < 0)=true:=decide_eq_true k0;have HI2:=hid (HI.out.next HLD.out HDG.out H2.out HK.out HK2.out HRN.out HN01.out.1 HN01.out.2 (st_line k0));go_wp2_with fail;refine (HST.out _).mono ?_;rintro e w1 ⟨rfl,hw1⟩;have hw2:=hw1.symm;clear hw1;subst hw2;go_wp2;go_roundw
          case rel=>exact⟨pos+1,[],⟨p.out,0,p.y+1⟩,hit2,by omega,hown2,rfl,(by rw[hyn]),.inl ⟨rfl,rfl⟩,hbw2,HI2⟩
          case measure=>rw[iterPos_of hit2,hpos0];omega
         have dk0:decide (k < 0)=false:=decide_eq_false k0;by_cases k1:0 < k
         ·have dk1:decide (0 < k)=true:=decide_eq_true k1;by_cases f1:wd < p.x+1
          ·have df1:decide (wd < p.x+1)=true:=decide_eq_true f1;have HN:Hid (readM wd ht l [] ps0=([],5)):=hid (HI.out.err HLD.out HDG.out H2.out HK.out HK2.out HRN.out (st_far k1 (.inl f1)) (by decide));go_wp2_with fail;refine (HST.out _).mono ?_;rintro e w1 ⟨rfl,hw1⟩;have hw2:=hw1.symm;clear hw1;subst hw2;go_wp2;go_ret2;exact RetRead.bad HN.out hbw2
          have df1:decide (wd < p.x+1)=false:=decide_eq_false f1;by_cases f2:ht≤p.y
          ·have df2:decide (ht≤p.y)=true:=decide_eq_true f2;have HN:Hid (readM wd ht l [] ps0=([],5)):=hid (HI.out.err HLD.out HDG.out H2.out HK.out HK2.out HRN.out (st_far k1 (.inr f2)) (by decide));go_wp2_with fail;refine (HST.out _).mono ?_;rintro e w1 ⟨rfl,hw1⟩;have hw2:=hw1.symm;clear hw1;subst hw2;go_wp2;go_ret2;exact RetRead.bad HN.out hbw2
          have df2:decide (ht≤p.y)=false:=decide_eq_false f2;by_cases f3:5000 < (p.out.length:Int)+1
          ·have df3:decide (5000 < (p.out.length:Int)+1)=true:=decide_eq_true f3;have HN:Hid (readM wd ht l [] ps0=([],6)):=hid (HI.out.err HLD.out HDG.out H2.out HK.out HK2.out HRN.out (st_many k1 (by omega) f3) (by decide));obtain⟨A,c,rfl,-,-⟩:=hown2.cls;go_wp2_with fail;refine (HST.out _).mono ?_;rintro e w1 ⟨rfl,hw1⟩;have hw2:=hw1.symm;clear hw1;subst hw2;go_wp2;go_ret2;exact RetRead.bad HN.out hbw2
          have df3:decide (5000 < (p.out.length:Int)+1)=false:=decide_eq_false f3;have HI2:=hid (HI.out.next HLD.out HDG.out H2.out HK.out HK2.out HRN.out HN01.out.1 HN01.out.2 (st_push k1 (by omega) f3));obtain⟨nn,hnn⟩:∃ nn:Nat,nn=(1:Int).toNat:=⟨_,rfl⟩
          have HNE:Hid (((nn:Nat):Int)=1):=hid (by rw[hnn];have:=HN01.out;omega);rw[← hnn] at HI2;have HNN:Hid (nn≤5000):=hid (by omega);clear hnn f1 f2 f3;obtain⟨A,c,hv,hcl,hnw⟩:=hown2.cls;subst hv;go_wp2_with fail;refine (HST.out _).mono ?_;rintro e w1 ⟨rfl,hw1⟩;have hw2:=hw1.symm;clear hw1;subst hw2;go_upto_region 30 with fail
          rw[hxn,hln];go_wp2;go_loopw [8,16,100] (fun o _ i wr2=>∃ m:Nat,m≤nn∧i=.int .i64 m∧Hid (OwnC 114 wr2 (w.heap.size+1) o (p.out ++ cellsP p.x p.y m k))∧Hid (wr2.heap[w.heap.size]?=some (.stringIter s (pos+1)))∧Hid (Below w.heap.size w wr2)) (fun _ _ i _=>nn - (intOf i).toNat)
          case atStart=>exact⟨0,Nat.zero_le _,rfl,hid (by rw[cellsP_zero,List.append_nil];exact hown2),hid hit2,hid hbw2⟩
          case round=>
           clear hit2 hown2 hbw2;obtain⟨m,hm,rfl,HO,HIT,HBW⟩:=hrel;by_cases hlt:m < nn
           ·have dm:decide ((m:Int) < 1)=true:=decide_eq_true (by rw[← HNE.out];omega);have hxm:wrap64 (p.x+(m:Int))=p.x+(m:Int):=by have:=HXB.out;have:=HNN.out;unfold wrap64;omega
            have hwm:wrap64 ((m:Int)+1)=(m:Int)+1:=by have:=HNN.out;unfold wrap64;omega
            obtain⟨A,c,hv,-,-⟩:=HO.out.cls;have hown9:=HO.out;rw[hv] at hown9;have hlen9:(p.out ++ cellsP p.x p.y m k).length < 4294967296:=len9 HXB.out.2.2.2.2 hlt HNN.out;have hbs9:w.heap.size+1≤_:=Blt_of HIT.out;subst hv;go_wp2_with (at_builtin;refine wpList_pushC rfl _ _ _ rfl (w.heap.size+1) 114 Tryz.underlying30 Tryz.infoCell _ _ rfl hown9 _ _ _ rfl hlen9 hbs9 ?_);intro v' w9 ho9 hb9;have HO2:Hid (OwnC 114 w9 (w.heap.size+1) v' (p.out ++ cellsP p.x p.y (m+1) k)):=hid (by rw[cellsP_snoc,← List.append_assoc];first | exact ho9 | (rw[List.append_assoc];exact ho9));have HIT2:Hid (w9.heap[w.heap.size]?=some (.stringIter s (pos+1))):=hid (by rw[hb9.block w.heap.size (by omega)];exact HIT.out);have HBW2:Hid (Below w.heap.size w w9):=hid (HBW.out.trans (below_less hb9 (Nat.le_succ _)));clear ho9 hb9 hown9;go_wp2;go_roundw
            case rel=>
             exact⟨m+1,hlt,(by rw[hwm];rfl),HO2,HIT2,HBW2⟩
            case measure=>rw[hwm];exact meas_up3 hlt
           ·have hme:m=nn:=by omega
            subst hme;have dm:decide ((m:Int) < 1)=false:=decide_eq_false (by rw[← HNE.out];omega);go_wp2;go_roundw
            case rel=>exact⟨pos+1,[],⟨p.out ++ cellsP p.x p.y m k,p.x+1,p.y⟩,HIT.out,by omega,HO.out,(by rw[hxn]),rfl,.inl ⟨rfl,rfl⟩,HBW.out,HI2⟩
            case measure=>rw[iterPos_of HIT.out,hpos0];omega
         have dk1:decide (0 < k)=false:=decide_eq_false k1;have HI2:=hid (HI.out.next HLD.out HDG.out H2.out HK.out HK2.out HRN.out HN01.out.1 HN01.out.2 (st_gap (by omega)));go_wp2_with fail;refine (HST.out _).mono ?_;rintro e w1 ⟨rfl,hw1⟩;have hw2:=hw1.symm;clear hw1;subst hw2;go_wp2;go_roundw
         case rel=>exact⟨pos+1,[],⟨p.out,p.x+1,p.y⟩,hit2,by omega,hown2,(by rw[hxn]),rfl,.inl ⟨rfl,rfl⟩,hbw2,HI2⟩
         case measure=>rw[iterPos_of hit2,hpos0];omega
     ·have H2:Hid (ds=[]→¬ (b=32∨b=10)∧¬ b=33):=hid (fun h=>absurd h hne);have dn:decide ((st0:Int) < 0)=false:=decide_eq_false (by omega);have dn2:decide ((0:Int)≤(st0:Int))=true:=decide_eq_true (by omega);have HEX:Hid (s.extract st0 pos=⟨ds.toArray⟩):=hid (extract_ds HL.out (by have h:=HI.out.dr;rwa [show pos - ds.length=st0 by omega] at h) hsp);have HNM:Hid (∀ w',Calls Tryz.prog 137 #[.string (s.extract st0 pos),.int .i64 7] w' fun e w''=>e=.returned (.tuple #[.int .i64 (numL ds),.bool true])∧Below w'.heap.size w' w''):=hid (fun w'=>by
       have h:=num_any ds 7 w' (by omega) (by have:=HI.out.d7;omega);rw[numT7 hne HI.out.d7 HI.out.dd (HI.out.d0 hne),← HEX.out] at h;exact h)
      have HRN0:Hid (runN ds=numL ds):=hid (by unfold runN;rw[if_neg hne]);have HN0:Hid (0≤numL ds∧numL ds < 10000000):=hid (numL_bd7 HI.out.dd HI.out.d7);have hsz1:st0≤pos:=by omega
      have hsz2:pos≤s.size:=by omega
      obtain⟨n,hn⟩:∃ n,n=numL ds:=⟨_,rfl⟩
      rw[← hn] at HNM HRN0 HN0;clear hn hne;have HRN:Hid (runN ds=n):=HRN0;have HN01:Hid ((0:Int)≤n∧n≤10000000):=hid ⟨HN0.out.1,by have:=HN0.out.2;omega⟩;have HST:Hid (∀ w',Calls Tryz.prog 138 #[.int .i32 (b.toNat:Int)] w' fun e w''=>e=.returned (.int .i64 (stateC b.toNat))∧w''=w'):=hid (fun w'=>state_any (b.toNat:Int) w' (by omega) (by omega));have HKB:=hid (stateC_bd (b.toNat:Int));obtain⟨k,hk⟩:∃ k,k=stateC (b.toNat:Int):=⟨_,rfl⟩
      rw[← hk] at HST HKB;have HK:=hid hk.symm;clear hk;by_cases k2:k = -2
      ·have HN:Hid (readM wd ht l [] ps0=([],15)):=hid (HI.out.bad HLD.out HDG.out H2.out (by rw[HK.out,k2]));subst k2;go_wp2_with fail;refine (HST.out _).mono ?_;rintro e w1 ⟨rfl,hw1⟩;have hw2:=hw1.symm;clear hw1;subst hw2;go_wp2;go_ret2;exact RetRead.bad HN.out hbw2
      have k2e:(k == -2)=false:=by simpa using k2
      have HK2:=hid k2;clear k2;have HXB:Hid (0≤p.x∧p.x≤700000000000∧0≤p.y∧p.y≤700000000000∧p.out.length≤5000):=hid ⟨HI.out.x0,by have:=HI.out.x1;omega,HI.out.y0,by have:=HI.out.y1;omega,HI.out.n⟩;have hyn:wrap64 (p.y+n)=p.y+n:=by have:=HXB.out;have:=HN01.out;unfold wrap64;omega
      have hxn:wrap64 (p.x+n)=p.x+n:=by have:=HXB.out;have:=HN01.out;unfold wrap64;omega
      have hln:wrap64 ((p.out.length:Int)+n)=(p.out.length:Int)+n:=by have:=HXB.out;have:=HN01.out;unfold wrap64;omega
      by_cases k0:k < 0
      ·have dk0:decide (k < 0)=true:=decide_eq_true k0;have HI2:=hid (HI.out.next HLD.out HDG.out H2.out HK.out HK2.out HRN.out HN01.out.1 HN01.out.2 (st_line k0));go_wp2_with fail;refine (HST.out _).mono ?_;rintro e w1 ⟨rfl,hw1⟩;have hw2:=hw1.symm;clear hw1;subst hw2;go_wp2_with fail;refine (HNM.out _).mono ?_;rintro e w1 ⟨rfl,hb1⟩;have hb1':Below w.heap.size W1 w1:=hb1.mono hbw2.size;have hit3:w1.heap[w.heap.size]?=some (.stringIter s (pos+1)):=by rw[hb1.block w.heap.size hBlt];exact hit2
       have hown3:=hown2.ext hb1;have hbw3:=hbw2.trans hb1';clear hit2 hown2 hbw2 hb1 hb1' hBlt;go_wp2;go_roundw
       case rel=>exact⟨pos+1,[],⟨p.out,0,p.y+n⟩,hit3,by omega,hown3,rfl,(by rw[hyn]),.inl ⟨rfl,rfl⟩,hbw3,HI2⟩
       case measure=>rw[iterPos_of hit3,hpos0];omega
      have dk0:decide (k < 0)=false:=decide_eq_false k0;by_cases k1:0 < k
      ·have dk1:decide (0 < k)=true:=decide_eq_true k1;by_cases f1:wd < p.x+n
       ·have df1:decide (wd < p.x+n)=true:=decide_eq_true f1;have HN:Hid (readM wd ht l [] ps0=([],5)):=hid (HI.out.err HLD.out HDG.out H2.out HK.out HK2.out HRN.out (st_far k1 (.inl f1)) (by decide));go_wp2_with fail;refine (HST.out _).mono ?_;rintro e w1 ⟨rfl,hw1⟩;have hw2:=hw1.symm;clear hw1;subst hw2;go_wp2_with fail;refine (HNM.out _).mono ?_;rintro e w1 ⟨rfl,hb1⟩;have hb1':Below w.heap.size W1 w1:=hb1.mono hbw2.size;have hit3:w1.heap[w.heap.size]?=some (.stringIter s (pos+1)):=by rw[hb1.block w.heap.size hBlt];exact hit2
        have hown3:=hown2.ext hb1;have hbw3:=hbw2.trans hb1';clear hit2 hown2 hbw2 hb1 hb1' hBlt;go_wp2;go_ret2;exact RetRead.bad HN.out hbw3
       have df1:decide (wd < p.x+n)=false:=decide_eq_false f1;by_cases f2:ht≤p.y
       ·have df2:decide (ht≤p.y)=true:=decide_eq_true f2;have HN:Hid (readM wd ht l [] ps0=([],5)):=hid (HI.out.err HLD.out HDG.out H2.out HK.out HK2.out HRN.out (st_far k1 (.inr f2)) (by decide));go_wp2_with fail;refine (HST.out _).mono ?_;rintro e w1 ⟨rfl,hw1⟩;have hw2:=hw1.symm;clear hw1;subst hw2;go_wp2_with fail;refine (HNM.out _).mono ?_;rintro e w1 ⟨rfl,hb1⟩;have hb1':Below w.heap.size W1 w1:=hb1.mono hbw2.size;have hit3:w1.heap[w.heap.size]?=some (.stringIter s (pos+1)):=by rw[hb1.block w.heap.size hBlt];exact hit2
        have hown3:=hown2.ext hb1;have hbw3:=hbw2.trans hb1';clear hit2 hown2 hbw2 hb1 hb1' hBlt;go_wp2;go_ret2;exact RetRead.bad HN.out hbw3
       have df2:decide (ht≤p.y)=false:=decide_eq_false f2;by_cases f3:5000 < (p.out.length:Int)+n
       ·have df3:decide (5000 < (p.out.length:Int)+n)=true:=decide_eq_true f3;have HN:Hid (readM wd ht l [] ps0=([],6)):=hid (HI.out.err HLD.out HDG.out H2.out HK.out HK2.out HRN.out (st_many k1 (by omega) f3) (by decide));obtain⟨A,c,rfl,-,-⟩:=hown2.cls;go_wp2_with fail;refine (HST.out _).mono ?_;rintro e w1 ⟨rfl,hw1⟩;have hw2:=hw1.symm;clear hw1;subst hw2;go_wp2_with fail;refine (HNM.out _).mono ?_;rintro e w1 ⟨rfl,hb1⟩;have hb1':Below w.heap.size W1 w1:=hb1.mono hbw2.size;have hit3:w1.heap[w.heap.size]?=some (.stringIter s (pos+1)):=by rw[hb1.block w.heap.size hBlt];exact hit2
        have hown3:=hown2.ext hb1;have hbw3:=hbw2.trans hb1';clear hit2 hown2 hbw2 hb1 hb1' hBlt;go_wp2;go_ret2;exact RetRead.bad HN.out hbw3
       have df3:decide (5000 < (p.out.length:Int)+n)=false:=decide_eq_false f3;have HI2:=hid (HI.out.next HLD.out HDG.out H2.out HK.out HK2.out HRN.out HN01.out.1 HN01.out.2 (st_push k1 (by omega) f3));obtain⟨nn,hnn⟩:∃ nn:Nat,nn=(n:Int).toNat:=⟨_,rfl⟩
       have HNE:Hid (((nn:Nat):Int)=n):=hid (by rw[hnn];have:=HN01.out;omega);rw[← hnn] at HI2;have HNN:Hid (nn≤5000):=hid (by omega);clear hnn f1 f2 f3;obtain⟨A,c,hv,hcl,hnw⟩:=hown2.cls;subst hv;go_wp2_with fail;refine (HST.out _).mono ?_;rintro e w1 ⟨rfl,hw1⟩;have hw2:=hw1.symm;clear hw1;subst hw2;go_wp2_with fail;refine (HNM.out _).mono ?_;rintro e w1 ⟨rfl,hb1⟩;have hb1':Below w.heap.size W1 w1:=hb1.mono hbw2.size;have hit3:w1.heap[w.heap.size]?=some (.stringIter s (pos+1)):=by rw[hb1.block w.heap.size hBlt];exact hit2
       have hown3:=hown2.ext hb1;have hbw3:=hbw2.trans hb1';clear hit2 hown2 hbw2 hb1 hb1' hBlt;go_upto_region 30 with fail
       rw[hxn,hln];go_wp2;go_loopw [8,16,100] (fun o _ i wr2=>∃ m:Nat,m≤nn∧i=.int .i64 m∧Hid (OwnC 114 wr2 (w.heap.size+1) o (p.out ++ cellsP p.x p.y m k))∧Hid (wr2.heap[w.heap.size]?=some (.stringIter s (pos+1)))∧Hid (Below w.heap.size w wr2)) (fun _ _ i _=>nn - (intOf i).toNat)
       case atStart=>exact⟨0,Nat.zero_le _,rfl,hid (by rw[cellsP_zero,List.append_nil];exact hown3),hid hit3,hid hbw3⟩
       case round=>
        clear hit3 hown3 hbw3;obtain⟨m,hm,rfl,HO,HIT,HBW⟩:=hrel;by_cases hlt:m < nn
        ·have dm:decide ((m:Int) < n)=true:=decide_eq_true (by rw[← HNE.out];omega);have hxm:wrap64 (p.x+(m:Int))=p.x+(m:Int):=by have:=HXB.out;have:=HNN.out;unfold wrap64;omega
         have hwm:wrap64 ((m:Int)+1)=(m:Int)+1:=by have:=HNN.out;unfold wrap64;omega
         obtain⟨A,c,hv,-,-⟩:=HO.out.cls;have hown9:=HO.out;rw[hv] at hown9;have hlen9:(p.out ++ cellsP p.x p.y m k).length < 4294967296:=len9 HXB.out.2.2.2.2 hlt HNN.out;have hbs9:w.heap.size+1≤_:=Blt_of HIT.out;subst hv;go_wp2_with (at_builtin;refine wpList_pushC rfl _ _ _ rfl (w.heap.size+1) 114 Tryz.underlying30 Tryz.infoCell _ _ rfl hown9 _ _ _ rfl hlen9 hbs9 ?_);intro v' w9 ho9 hb9;have HO2:Hid (OwnC 114 w9 (w.heap.size+1) v' (p.out ++ cellsP p.x p.y (m+1) k)):=hid (by rw[cellsP_snoc,← List.append_assoc];first | exact ho9 | (rw[List.append_assoc];exact ho9));have HIT2:Hid (w9.heap[w.heap.size]?=some (.stringIter s (pos+1))):=hid (by rw[hb9.block w.heap.size (by omega)];exact HIT.out);have HBW2:Hid (Below w.heap.size w w9):=hid (HBW.out.trans (below_less hb9 (Nat.le_succ _)));clear ho9 hb9 hown9;go_wp2;go_roundw
         case rel=>
          exact⟨m+1,hlt,(by rw[hwm];rfl),HO2,HIT2,HBW2⟩
         case measure=>rw[hwm];exact meas_up3 hlt
        ·have hme:m=nn:=by omega
         subst hme;have dm:decide ((m:Int) < n)=false:=decide_eq_false (by rw[← HNE.out];omega);go_wp2;go_roundw
         case rel=>exact⟨pos+1,[],⟨p.out ++ cellsP p.x p.y m k,p.x+n,p.y⟩,HIT.out,by omega,HO.out,(by rw[hxn]),rfl,.inl ⟨rfl,rfl⟩,HBW.out,HI2⟩
         case measure=>rw[iterPos_of HIT.out,hpos0];omega
      have dk1:decide (0 < k)=false:=decide_eq_false k1;have HI2:=hid (HI.out.next HLD.out HDG.out H2.out HK.out HK2.out HRN.out HN01.out.1 HN01.out.2 (st_gap (by omega)));go_wp2_with fail;refine (HST.out _).mono ?_;rintro e w1 ⟨rfl,hw1⟩;have hw2:=hw1.symm;clear hw1;subst hw2;go_wp2_with fail;refine (HNM.out _).mono ?_;rintro e w1 ⟨rfl,hb1⟩;have hb1':Below w.heap.size W1 w1:=hb1.mono hbw2.size;have hit3:w1.heap[w.heap.size]?=some (.stringIter s (pos+1)):=by rw[hb1.block w.heap.size hBlt];exact hit2
      have hown3:=hown2.ext hb1;have hbw3:=hbw2.trans hb1';clear hit2 hown2 hbw2 hb1 hb1' hBlt;go_wp2;go_roundw
      case rel=>exact⟨pos+1,[],⟨p.out,p.x+n,p.y⟩,hit3,by omega,hown3,(by rw[hxn]),rfl,.inl ⟨rfl,rfl⟩,hbw3,HI2⟩
      case measure=>rw[iterPos_of hit3,hpos0];omega
   ·have h128':128≤s[pos].toNat:=by omega
    have hR1:=decode_high s pos hp h128';have hR2:=decode_le s pos;generalize Utf8.decode s pos=R at *;obtain⟨R,K⟩:=R;dsimp only at hR1 hR2 hnx;have hit2:=Lib.iterAt_heap wr w.heap.size s pos (pos+K) hit;have hbw2:=Lib.below_iterAt hbw (k:=w.heap.size) (Nat.le_refl _) s (pos+K);have hown2:=ownC_iter hown hit (pos+K);obtain⟨W1,hW1⟩:∃ W1,W1=wr.iterAt w.heap.size s (pos+K):=⟨_,rfl⟩
    rw[← hW1] at hnx hit2 hbw2 hown2;have hBlt:=Blt_of hit2;clear hW1 hit hown hbw;have hR3:=hR1.1;clear hR1 hpos0;have HN:Hid (readM wd ht l [] ps0=([],15)):=hid (HI.out.bad HLD.out (by
     show (decide _ && decide _)=false;rw[decide_eq_false (p:=(s[pos].toNat:Int)≤57) (by omega),Bool.and_false]) (fun _=>⟨by
      rintro (h | h)
      ·rw[h] at h128';revert h128';decide
      ·rw[h] at h128';revert h128';decide,by
      intro h;rw[h] at h128';revert h128';decide⟩) (stateC_big (by omega)))
    have HST:Hid (∀ w',Calls Tryz.prog 138 #[.int .i32 (R:Int)] w' fun e w''=>e=.returned (.int .i64 (-2))∧w''=w'):=hid (fun w'=>by
     have h:=state_any (R:Int) w' (by omega) (by omega);rw[stateC_big (by omega)] at h;exact h)
    have d2:decide ((R:Int)≤57)=false:=decide_eq_false (by omega);have e32:((R:Int) == 32)=false:=by simp;omega
    have e10:((R:Int) == 10)=false:=by simp;omega
    have e33:((R:Int) == 33)=false:=by simp;omega
    clear h128 h128';have hst2:=hst;clear hst;rcases hst2 with ⟨h0,rfl⟩ | ⟨hne,st0,hsp,rfl⟩
    ·go_wp2_with fail;refine (HST.out _).mono ?_;rintro e w1 ⟨rfl,hw1⟩;have hw2:=hw1.symm;clear hw1;subst hw2;go_wp2;go_ret2;exact RetRead.bad HN.out hbw2
    ·have dn:decide ((st0:Int) < 0)=false:=decide_eq_false (by omega);go_wp2_with fail;refine (HST.out _).mono ?_;rintro e w1 ⟨rfl,hw1⟩;have hw2:=hw1.symm;clear hw1;subst hw2;go_wp2;go_ret2;exact RetRead.bad HN.out hbw2
  ·have hnx:∀ ty,(Instr.next (.pointer (some ⟨w.heap.size,0,none⟩)) true ty).run Tryz.prog wr=_:=fun ty=>Lib.run_next_end_at wr w.heap.size s pos ty hit hp;have HN:Hid (readM wd ht l [] ps0=([],4)):=hid (by rw[HI.out.m,List.drop_of_length_le (by rw[HG.out.1];omega),rd_end]);clear hst hown;go_wp2;go_ret2;exact RetRead.bad HN.out hbw

theorem line_at:∀ {l:List UInt8},(lineOf l).length < l.length→l[(lineOf l).length]?=some 10
 | [],h=>by simp at h
 | a :: l,h=>by
  by_cases ha:a=10
  ·subst ha;have:lineOf ((10:UInt8) :: l)=[]:=by unfold lineOf;rw[List.takeWhile_cons,if_neg (by decide)]
   rw[this];rfl
  ·have e:lineOf (a :: l)=a :: lineOf l:=by unfold lineOf;rw[List.takeWhile_cons,if_pos (by simpa using ha)]
   rw[e] at h ⊢;simp only[List.length_cons,List.getElem?_cons_succ] at h ⊢;exact line_at (by omega)
theorem cut_nl (l:List UInt8):(Lib.cut l [10]).1=lineOf l∧(Lib.cut l [10]).2.1=afterLine l:=by
 have hsp:=line_split l;have hno:∀ j,j < (lineOf l).length→Lib.occAt l [10] j=false:=by
  intro j hj;cases ho:Lib.occAt l [10] j
  ·rfl
  ·have h1:=Lib.occAt_head rfl ho;rw[hsp,List.getElem?_append_left hj,List.getElem?_eq_getElem hj] at h1;exact absurd (Option.some.inj h1) (line_no l _ (List.getElem_mem hj))
 by_cases h:(lineOf l).length < l.length
 ·have h10:=line_at h;have ho:Lib.occAt l [10] (lineOf l).length=true:=by
   unfold Lib.occAt;rw[List.drop_eq_getElem_cons h];have:l[(lineOf l).length]=10:=by rw[List.getElem?_eq_getElem h] at h10;exact Option.some.inj h10
   rw[this];simp[List.isPrefixOf]
  have hi:=Lib.index_first (Nat.le_of_lt h) ho hno;unfold Lib.cut;rw[hi,if_pos (by omega)];refine⟨?_,?_⟩
  ·show l.take _=lineOf l;rw[Int.toNat_natCast];have h4:l.take (lineOf l).length=(lineOf l ++ l.drop (lineOf l).length).take (lineOf l).length:=by rw[← hsp]
   rw[h4,List.take_left]
  ·show l.drop _=afterLine l;rw[Int.toNat_natCast];rfl
 ·have hle:l.length≤(lineOf l).length:=by omega
  have hi:Lib.index l [10] = -1:=by
   refine Lib.index_none fun j hj=>?_;by_cases hj2:j < (lineOf l).length
   ·exact hno j hj2
   ·unfold Lib.occAt;rw[List.drop_of_length_le (by omega)];rfl
  unfold Lib.cut;rw[hi,if_neg (by omega)];refine⟨?_,?_⟩
  ·show l=lineOf l;rw[List.drop_of_length_le hle,List.append_nil] at hsp;exact hsp
  ·show []=afterLine l;unfold afterLine;rw[List.drop_of_length_le (by omega)]
theorem pre_hash (l:List UInt8):Lib.hasPrefix l [35]=true ↔ l.head?=some 35:=by
 unfold Lib.hasPrefix;cases l with
 | nil=>simp[List.isPrefixOf]
 | cons a l=>
  simp only[List.isPrefixOf,Bool.and_true,beq_iff_eq,List.head?_cons,Option.some.injEq];exact eq_comm
theorem hdrL_bd {l r:List UInt8}{w h:Int}(hh:hdrL l=some (w,h,r)):0≤w∧w < 1000000000∧0≤h∧h < 1000000000∧r.length≤l.length:=by
 have h1:=hdrT_some hh;have hr:r=(Lib.cut (Lib.cut (Lib.trimPrefix l tx) ty).2.1 tr).2.1:=by
  unfold hdrT at h1
  split at h1
  ·injection h1 with _ h1;injection h1 with _ h1;injection h1 with _ h1;cases h1
  ·split at h1
   ·injection h1 with _ h1;injection h1 with _ h1;injection h1 with _ h1;cases h1
   ·injection h1 with _ h1;injection h1 with _ h1;injection h1 with h1 _;exact h1.symm
 have hw:∀ (a:List UInt8),(numT 9 a).2=true→0≤(numT 9 a).1∧(numT 9 a).1 < 1000000000:=by
  intro a ha;unfold numT at ha ⊢
  split at ha
  ·rename_i hc;rw[if_pos hc];have h9:a.length≤9:=by
    have:=hc.1;unfold okN at this;simp only[Bool.and_eq_true,decide_eq_true_eq] at this;exact this.1.2
   exact numL_bd9 (List.all_eq_true.1 hc.2) h9
  ·cases ha
 have hl:r.length≤l.length:=by
  rw[hr];exact Nat.le_trans (cut_len _ _).2 (Nat.le_trans (cut_len _ _).2 (trim_len _ _))
 unfold hdrT at h1
 split at h1
 ·injection h1 with _ h1;injection h1 with _ h1;injection h1 with _ h1;cases h1
 ·split at h1
  ·injection h1 with _ h1;injection h1 with _ h1;injection h1 with _ h1;cases h1
  ·injection h1 with e1 h1
   injection h1 with e2 h1
   injection h1 with e3 e4
   simp only[Bool.and_eq_true] at e4;have k1:=hw _ e4.1.2;have k2:=hw _ e4.2;rw[e1] at k1;rw[e2] at k2;exact⟨k1.1,k1.2,k2.1,k2.2,hl⟩
def RetParse (r:List Cel × List UInt8 × Int)(w:World)(e:Ending)(w':World):Prop:=∃ A c,e=.returned (.tuple #[.slice A r.1.length c,.string ⟨r.2.1.toArray⟩,.int .i64 r.2.2])∧Cls w' A r.1∧Below w.heap.size w w'∧NewA w.heap.size A
theorem RetParse.bad {r:List Cel × List UInt8 × Int}{k:Int}{w w':World}(h:r=([],[],k)) (hb:Below w.heap.size w w'):RetParse r w (.returned (.tuple #[.slice none 0 0,.string ⟨#[]⟩,.int .i64 k])) w':=by
 subst h;exact⟨none,0,rfl,Cls.nil,hb,NewA.none_ _⟩
theorem RetParse.good {r:List Cel × List UInt8 × Int}{cs:List Cel}{rule:List UInt8}{w w':World}{A:Option Addr}{c:Nat}(h:r=(cs,rule,0)) (hc:Cls w' A cs)(hb:Below w.heap.size w w')(hn:NewA w.heap.size A):RetParse r w (.returned (.tuple #[.slice A cs.length c,.string ⟨rule.toArray⟩,.int .i64 0])) w':=by
 subst h;exact⟨A,c,rfl,hc,hb,hn⟩
def strLen:Value→Nat
 | .string b=>b.size
 | _=>0
theorem cutnl_any (l:List UInt8)(w:World)(hg:GCell w)(hs:l.length < 4294967281):Calls Tryz.prog 33 #[.string ⟨l.toArray⟩,.string ⟨#[10]⟩] w fun e w'=>∃ b,e=.returned (.tuple #[.string ⟨(lineOf l).toArray⟩,.string ⟨(afterLine l).toArray⟩,.bool b])∧Below w.heap.size w w':=by
 refine (cut_any l [10] w hg hs).mono ?_;rintro e w' ⟨rfl,hb⟩;rw[(cut_nl l).1,(cut_nl l).2];exact⟨_,rfl,hb⟩
theorem rd_any (l:List UInt8)(wd ht:Int)(w:World)(hs:l.length≤65536)(hw0:0≤wd)(hw1:wd≤1000000000)(hh0:0≤ht)(hh1:ht≤1000000000) :
  Calls Tryz.prog 105 #[.string ⟨l.toArray⟩,.int .i64 wd,.int .i64 ht] w (RetRead (readM wd ht l [] ps0) w):=
 read_any ⟨l.toArray⟩ wd ht w (by show l.toArray.size≤_;simpa using hs) hw0 hw1 hh0 hh1
theorem strLen_lt {m n:List UInt8}(h:m.length < n.length):strLen (.string ⟨m.toArray⟩) < strLen (.string ⟨n.toArray⟩):=by
 show m.toArray.size < n.toArray.size;simpa using h
set_option maxHeartbeats 4000000 in
theorem parse_any (l:List UInt8)(w:World)(hg:GCell w)(hs:l.length≤2147483647) :
  Calls Tryz.prog 67 #[.string ⟨l.toArray⟩] w (RetParse (parseL l) w):=by
 by_cases h6:65536 < l.length
 ·have HN:Hid (parseL l=([],[],6)):=hid (by unfold parseL;rw[if_pos h6]);have h6':(65536:Int) < (l.length:Int):=by omega
  clear h6;go_enter Tryz.func67,Tryz.ntmps67;go_wp2;go_ret3;exact RetParse.bad HN.out (Below.refl _ _)
 have HT:Hid (parseL l=match hdrL (lineOf (skipC l)) with
  | none=>([],[],15)
  | some (w,h,rule)=>
   if nameB rule=false then ([],[],7)
   else if 1048577 < w∨1048577 < h then ([],[],5)
   else if (readM w h (afterLine (skipC l)) [] ps0).2≠0 then ([],[],(readM w h (afterLine (skipC l)) [] ps0).2)
   else ((readM w h (afterLine (skipC l)) [] ps0).1,rule,0)):=hid (by unfold parseL;rw[if_neg h6];rfl)
 have h6':(l.length:Int)≤65536:=by omega
 have HL6:Hid (l.length≤65536):=hid (by omega);clear h6;go_enter Tryz.func67,Tryz.ntmps67;go_wp2_with fail;go_loopw [0] (fun sv wr=>∃ m:List UInt8,sv=.string ⟨m.toArray⟩∧Hid (m.length≤l.length∧skipC l=skipC m)∧Hid (Below w.heap.size w wr)) (fun sv _=>strLen sv)
 case atStart=>exact⟨l,rfl,hid ⟨Nat.le_refl _,rfl⟩,hid (Below.refl _ _)⟩
 case round=>
  obtain⟨m,rfl,HM,HB⟩:=hrel;have HP:Hid (Calls Tryz.prog 65 #[.string ⟨m.toArray⟩,.string ⟨#[35]⟩] wr fun e w'=>e=.returned (.bool (Lib.hasPrefix m [35]))∧w'=wr):=hid (Tryz.strings_HasPrefix ⟨m.toArray⟩ ⟨#[35]⟩ wr);have HC:=hid (cutnl_any m wr (hg.ext HB.out) (by have:=HM.out.1;have:=HL6.out;omega));cases hp:Lib.hasPrefix m [35]
  ·have hne:¬ m.head?=some 35:=fun h=>by rw[(pre_hash m).2 h] at hp;cases hp
   have HSK:Hid (skipC l=m):=hid (by rw[HM.out.2,skipC_no hne]);rw[hp] at HP;rw[HSK.out] at HT;clear hp hne;have hal:=afterLine_len m;have hll:(lineOf m).length≤m.length:=by
    have:=congrArg List.length (line_split m);rw[List.length_append] at this;omega
   have HH:=hid (fun w' (hb:Below w.heap.size w w')=>header_any (lineOf m) w' (hg.ext hb) (by have:=HM.out.1;have:=HL6.out;omega));obtain⟨ln,hln⟩:∃ ln,ln=lineOf m:=⟨_,rfl⟩
   obtain⟨af,haf⟩:∃ af,af=afterLine m:=⟨_,rfl⟩
   rw[← hln,← haf] at HT HC;rw[← hln] at HH hll;rw[← haf] at hal;clear hln haf;cases hd:hdrL ln with
   | none=>
    rw[hd] at HT;dsimp only at HT;have hf:=hdrT_none hd;obtain⟨q,hq⟩:∃ q,q=hdrT ln:=⟨_,rfl⟩
    rw[← hq] at HH hf;clear hq hd;obtain⟨q1,q2,q3,q4⟩:=q;dsimp only at HH hf;subst hf;go_wp2_with fail;refine HP.out.mono ?_;rintro e w1 ⟨rfl,hw1⟩;have hw2:=hw1.symm;clear hw1;subst hw2;go_wp2_with fail;refine HC.out.mono ?_;rintro e w1 ⟨b,rfl,hb1⟩;have HB1:=hid (HB.out.trans (hb1.mono HB.out.size));clear hb1;have HH1:=hid (HH.out w1 HB1.out);go_wp2_with fail;refine HH1.out.mono ?_;rintro e w2 ⟨rfl,hb2⟩;have HB2:=hid (HB1.out.trans (hb2.mono HB1.out.size));clear hb2;go_wp2;go_ret3;exact RetParse.bad HT.out HB2.out
   | some q=>
    obtain⟨wv,hv,rule⟩:=q;rw[hd] at HT;dsimp only at HT;have hbd:=hdrL_bd hd;rw[hdrT_some hd] at HH;dsimp only at HH;clear hd;have hrl:rule.length≤65536:=by have:=HM.out.1;have:=HL6.out;omega
    have hafl:af.length≤65536:=by have:=HM.out.1;have:=HL6.out;omega
    have HR:=hid (fun w'=>ruleName_any ⟨rule.toArray⟩ w' (by show rule.toArray.size≤_;simp;omega));have HRD:=hid (fun w'=>rd_any af wv hv w' hafl hbd.1 (by omega) hbd.2.2.1 (by omega));clear hbd hrl hafl hal hll;cases hn:nameB rule
    ·rw[hn] at HR;rw[hn,if_pos rfl] at HT;clear hn;go_wp2_with fail;refine HP.out.mono ?_;rintro e w1 ⟨rfl,hw1⟩;have hw2:=hw1.symm;clear hw1;subst hw2;go_wp2_with fail;refine HC.out.mono ?_;rintro e w1 ⟨b,rfl,hb1⟩;have HB1:=hid (HB.out.trans (hb1.mono HB.out.size));clear hb1;have HH1:=hid (HH.out w1 HB1.out);go_wp2_with fail;refine HH1.out.mono ?_;rintro e w2 ⟨rfl,hb2⟩;have HB2:=hid (HB1.out.trans (hb2.mono HB1.out.size));clear hb2;go_wp2_with fail;refine (HR.out _).mono ?_;rintro e w3 ⟨rfl,hw3⟩;have hw4:=hw3.symm;clear hw3;subst hw4;go_wp2;go_ret3;exact RetParse.bad HT.out HB2.out
    rw[hn] at HR;rw[hn,if_neg (by simp)] at HT;clear hn;by_cases hw9:1048577 < wv
    ·rw[if_pos (.inl hw9)] at HT;have d1:decide (1048577 < wv)=true:=decide_eq_true hw9;go_wp2_with fail;refine HP.out.mono ?_;rintro e w1 ⟨rfl,hw1⟩;have hw2:=hw1.symm;clear hw1;subst hw2;go_wp2_with fail;refine HC.out.mono ?_;rintro e w1 ⟨b,rfl,hb1⟩;have HB1:=hid (HB.out.trans (hb1.mono HB.out.size));clear hb1;have HH1:=hid (HH.out w1 HB1.out);go_wp2_with fail;refine HH1.out.mono ?_;rintro e w2 ⟨rfl,hb2⟩;have HB2:=hid (HB1.out.trans (hb2.mono HB1.out.size));clear hb2;go_wp2_with fail;refine (HR.out _).mono ?_;rintro e w3 ⟨rfl,hw3⟩;have hw4:=hw3.symm;clear hw3;subst hw4;go_wp2;go_ret3;exact RetParse.bad HT.out HB2.out
    have d1:decide (1048577 < wv)=false:=decide_eq_false hw9;by_cases hh9:1048577 < hv
    ·rw[if_pos (.inr hh9)] at HT;have d2:decide (1048577 < hv)=true:=decide_eq_true hh9;go_wp2_with fail;refine HP.out.mono ?_;rintro e w1 ⟨rfl,hw1⟩;have hw2:=hw1.symm;clear hw1;subst hw2;go_wp2_with fail;refine HC.out.mono ?_;rintro e w1 ⟨b,rfl,hb1⟩;have HB1:=hid (HB.out.trans (hb1.mono HB.out.size));clear hb1;have HH1:=hid (HH.out w1 HB1.out);go_wp2_with fail;refine HH1.out.mono ?_;rintro e w2 ⟨rfl,hb2⟩;have HB2:=hid (HB1.out.trans (hb2.mono HB1.out.size));clear hb2;go_wp2_with fail;refine (HR.out _).mono ?_;rintro e w3 ⟨rfl,hw3⟩;have hw4:=hw3.symm;clear hw3;subst hw4;go_wp2;go_ret3;exact RetParse.bad HT.out HB2.out
    have d2:decide (1048577 < hv)=false:=decide_eq_false hh9;rw[if_neg (by omega)] at HT;obtain⟨r,hr⟩:∃ r,r=readM wv hv af [] ps0:=⟨_,rfl⟩
    rw[← hr] at HRD HT;clear hr hw9 hh9;obtain⟨cs,er⟩:=r;dsimp only at HT;go_wp2_with fail;refine HP.out.mono ?_;rintro e w1 ⟨rfl,hw1⟩;have hw2:=hw1.symm;clear hw1;subst hw2;go_wp2_with fail;refine HC.out.mono ?_;rintro e w1 ⟨b,rfl,hb1⟩;have HB1:=hid (HB.out.trans (hb1.mono HB.out.size));clear hb1;have HH1:=hid (HH.out w1 HB1.out);go_wp2_with fail;refine HH1.out.mono ?_;rintro e w2 ⟨rfl,hb2⟩;have HB2:=hid (HB1.out.trans (hb2.mono HB1.out.size));clear hb2;go_wp2_with fail;refine (HR.out _).mono ?_;rintro e w3 ⟨rfl,hw3⟩;have hw4:=hw3.symm;clear hw3;subst hw4;have HRD1:=hid (HRD.out w2);unfold RetRead at HRD1;dsimp only at HRD1;go_wp2_with fail;refine HRD1.out.mono ?_;rintro e w4 ⟨A,c,rfl,hcl,hb4,hn4⟩;have HN4:=hid (hn4.mono HB2.out.size);clear hn4;have HB4:=hid (HB2.out.trans (hb4.mono HB2.out.size));have HCL:=hid hcl;clear hb4 hcl;by_cases he:er=0
    ·subst he;rw[if_neg (by simp)] at HT;go_wp2;go_ret3;exact RetParse.good HT.out HCL.out HB4.out HN4.out
    ·have de:(er == 0)=false:=by simpa using he
     have de2:(er != 0)=true:=by simpa using he
     rw[if_pos he] at HT;go_wp2;go_ret3;exact RetParse.bad HT.out HB4.out
  ·have HH:=(pre_hash m).1 hp;have HSK:Hid ((afterLine m).length≤l.length∧skipC l=skipC (afterLine m)):=hid ⟨by have:=afterLine_len m;have:=HM.out.1;omega,by rw[HM.out.2,skipC_yes HH]⟩;have HLT:Hid ((afterLine m).length < m.length):=hid (by
    have h1:=afterLine_len m;cases m with
    | nil=>cases HH
    | cons a m=>rw[List.length_cons] at *;omega)
   rw[hp] at HP;clear hp HH;obtain⟨af,haf⟩:∃ af,af=afterLine m:=⟨_,rfl⟩
   rw[← haf] at HSK HLT HC;clear haf;go_wp2_with fail;refine HP.out.mono ?_;rintro e w1 ⟨rfl,hw1⟩;have hw2:=hw1.symm;clear hw1;subst hw2;go_wp2_with fail;refine HC.out.mono ?_;rintro e w1 ⟨b,rfl,hb1⟩;have HB1:=hid (HB.out.trans (hb1.mono HB.out.size));clear hb1;go_wp2;go_roundw
   case rel=>exact⟨af,rfl,HSK,HB1⟩
   case measure=>exact strLen_lt HLT.out
end Go.Proofs.YtcfelnhmifkelaaGreatDoor
