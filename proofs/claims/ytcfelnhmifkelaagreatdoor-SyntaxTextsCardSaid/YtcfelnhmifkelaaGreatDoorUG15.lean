/-
  texts SynM Form0: parts of the proof; conditions stand with each theorem.
-/
import Derived.Test.YtcfelnhmifkelaaGreatDoorUG14
import Derived.Laws.EntriesVeiled
namespace Go.Proofs.YtcfelnhmifkelaaGreatDoor
open Go.RowKit
set_option maxRecDepth 100000
set_option linter.unusedVariables false
set_option linter.unusedSimpArgs false
def fldV (f:Nat):Value:=
 if f=1 then .func (.func 56) #[] #[] else if f=2 then .func (.func 57) #[] #[] else if f=3 then .func (.func 62) #[] #[] else if f=4 then .func (.func 63) #[] #[]
 else if f=7 then .func (.func 58) #[] #[] else if f=8 then .func (.func 59) #[] #[] else if f=9 then .func (.func 60) #[] #[] else .nilFunc
def slotCells (s:Slot):List Value:=[.int .i64 (s.k:Int),.string ⟨s.text.toArray⟩,fldV s.fld,.int .i64 s.lo,.int .i64 s.hi]
theorem flat5 {α:Type} (f:α→List Value)(hf:∀ x,(f x).length=5):∀ (ps:List α)(k:Nat)(hk:k < ps.length)(i:Nat),i < 5→(ps.flatMap f)[5*k+i]?=(f ps[k])[i]?
 | p :: ps,0,_,i,hi=>by
  rw[List.flatMap_cons,List.getElem?_append_left (by rw[hf];omega)]
  simp
 | p :: ps,k+1,hk,i,hi=>by
  rw[List.flatMap_cons,List.getElem?_append_right (by rw[hf];omega),hf,show 5*(k+1)+i - 5=5*k+i by omega,flat5 f hf ps k (by simpa using hk) i hi];rfl
theorem flat3g {α:Type} (f:α→List Value)(hf:∀ x,(f x).length=3):∀ (ps:List α)(k:Nat)(hk:k < ps.length)(i:Nat),i < 3→(ps.flatMap f)[3*k+i]?=(f ps[k])[i]?
 | p :: ps,0,_,i,hi=>by
  rw[List.flatMap_cons,List.getElem?_append_left (by rw[hf];omega)]
  simp
 | p :: ps,k+1,hk,i,hi=>by
  rw[List.flatMap_cons,List.getElem?_append_right (by rw[hf];omega),hf,show 3*(k+1)+i - 3=3*k+i by omega,flat3g f hf ps k (by simpa using hk) i hi];rfl
def SlA (w:World)(v:Value)(ss:List Slot):Prop:=∃ A c,v=.slice A ss.length c∧Reads w w.heap.size 5 A ss.length (ss.flatMap slotCells)∧ss.length≤1000000
section
variable {w w' : World} {v : Value} {ss : List Slot}
theorem SlA.ext (h:SlA w v ss)(hb:Below w.heap.size w w'):SlA w' v ss:=by
 obtain⟨A,c,e,h1,h2⟩:=h;exact⟨A,c,e,(Reads.below h1 hb).more hb.size,h2⟩
theorem SlA.form (h:SlA w v ss):∃ A c,v=.slice A ss.length c:=by
 obtain⟨A,c,e,-⟩:=h;exact⟨A,c,e⟩
theorem SlA.nil:SlA w (.slice none 0 0) []:=⟨none,0,rfl,Reads.none_,by simp⟩
theorem SlA.at_ {k:Nat}(h:SlA w v ss)(hk:k < ss.length):∃ b o c,v=.slice (some ⟨b,o,none⟩) ss.length c∧b < w.heap.size∧w.cell? ⟨b,o+k*5,none⟩=some (.int .i64 (ss[k].k:Int))∧w.cell? ⟨b,o+k*5+1,none⟩=some (.string ⟨ss[k].text.toArray⟩)∧w.cell? ⟨b,o+k*5+2,none⟩=some (fldV ss[k].fld)∧w.cell? ⟨b,o+k*5+3,none⟩=some (.int .i64 ss[k].lo)∧w.cell? ⟨b,o+k*5+4,none⟩=some (.int .i64 ss[k].hi):=by
 obtain⟨A,c,e,h1,h2⟩:=h;obtain⟨ad,rfl,hb,hc⟩:=h1.2 (by omega);have f0:=flat5 slotCells (fun _=>rfl) ss 0 (by omega) 0 (by omega);have h0:=hc _ _ f0;obtain⟨b,o,sp⟩:=ad;obtain rfl:=spot_none h0;have g:∀ i,i < 5→∀ u,(slotCells ss[k])[i]?=some u→w.cell? ⟨b,o+k*5+i,none⟩=some u:=fun i hi u hu=>by
  have:=hc _ _ ((flat5 slotCells (fun _=>rfl) ss k hk i hi).trans hu);rw[addr_add] at this;rw[← this,show o+k*5+i=o+(5*k+i) by omega]
 exact⟨b,o,c,e,hb,g 0 (by omega) _ rfl,g 1 (by omega) _ rfl,g 2 (by omega) _ rfl,g 3 (by omega) _ rfl,g 4 (by omega) _ rfl⟩
end
theorem SlA.lit (w:World)(cs:Array Value)(ss:List Slot)(hc:cs.toList=ss.flatMap slotCells)(hl:ss.length≤1000000):SlA (w.alloc (.cells cs 60)) (.slice (some ⟨w.heap.size,0,none⟩) ss.length ss.length) ss:=by
 have hs:cs.size=ss.length*5:=by
  rw[← Array.length_toList,hc,List.length_flatMap];clear hc hl;induction ss with
  | nil=>rfl
  | cons a l ih=>rw[List.map_cons,List.sum_cons,ih,List.length_cons];show 5+_=_;omega
 have h:=World.ownsRow_lit (base:=w.heap.size) (e:=60) (size:=5) w cs ss.length (Nat.le_refl _) (by unfold maxLen;omega) hs;rw[hc] at h;exact⟨_,_,rfl,Reads.of_own h,hl⟩
def SsA (w:World)(v:Value)(ls:List (List Slot)):Prop:=∃ A c svs,v=.slice A ls.length c∧svs.length=ls.length∧Reads w w.heap.size 1 A ls.length svs∧(∀ i (h:i < ls.length)(h2:i < svs.length),SlA w svs[i] ls[i])∧ls.length≤1000000
theorem SsA.ext {w w':World}{v:Value}{ls:List (List Slot)} (h:SsA w v ls)(hb:Below w.heap.size w w'):SsA w' v ls:=by
 obtain⟨A,c,svs,e,h1,h2,h3,h4⟩:=h;exact⟨A,c,svs,e,h1,(Reads.below h2 hb).more hb.size,fun i h h'=>(h3 i h h').ext hb,h4⟩
theorem SsA.form {w:World}{v:Value}{ls:List (List Slot)} (h:SsA w v ls):∃ A c,v=.slice A ls.length c:=by
 obtain⟨A,c,svs,e,-⟩:=h;exact⟨A,c,e⟩
theorem SsA.le {w:World}{v:Value}{ls:List (List Slot)} (h:SsA w v ls):ls.length≤1000000:=by
 obtain⟨A,c,svs,e,h1,h2,h3,h4⟩:=h;exact h4
theorem SsA.at_ {w:World}{v:Value}{ls:List (List Slot)} {k:Nat}(h:SsA w v ls)(hk:k < ls.length):∃ b o c sv,v=.slice (some ⟨b,o,none⟩) ls.length c∧b < w.heap.size∧w.cell? ⟨b,o+k,none⟩=some sv∧SlA w sv ls[k]:=by
 obtain⟨A,c,svs,e,h1,h2,h3,h4⟩:=h;obtain⟨ad,rfl,hb,hc⟩:=h2.2 (by omega);have h0:=hc 0 svs[0] (List.getElem?_eq_getElem (by omega));have hk':=hc k svs[k] (List.getElem?_eq_getElem (by omega));obtain⟨b,o,sp⟩:=ad;obtain rfl:=spot_none h0;rw[addr_add] at hk';exact⟨b,o,c,svs[k],e,hb,hk',h3 k hk (by omega)⟩
theorem SsA.lit (w:World)(cs:Array Value)(ls:List (List Slot)) (hs:cs.size=ls.length)(h:∀ i (h:i < ls.length)(h2:i < cs.toList.length),SlA w cs.toList[i] ls[i]) (hl:ls.length≤1000000):SsA (w.alloc (.cells cs 50)) (.slice (some ⟨w.heap.size,0,none⟩) ls.length ls.length) ls:=by
 have h1:=World.ownsRow_lit (base:=w.heap.size) (e:=50) (size:=1) w cs ls.length (Nat.le_refl _) (by unfold maxLen;omega) (by omega);exact⟨_,_,cs.toList,rfl,by rw[Array.length_toList];exact hs,Reads.of_own h1,fun i h2 h3=>(h i h2 h3).ext ((Below.refl _ w).alloc (Nat.le_refl _) _),hl⟩
def formCells (p:Form × Value):List Value:=[.string ⟨p.1.word.toArray⟩,.int .i64 p.1.kind,p.2]
def formV (f:Form)(sv:Value):Value:=.agg #[.string ⟨f.word.toArray⟩,.int .i64 f.kind,sv]
def FmA (w:World)(v:Value)(fs:List Form):Prop:=∃ A c svs,v=.slice A fs.length c∧svs.length=fs.length∧Reads w w.heap.size 3 A fs.length ((fs.zip svs).flatMap formCells)∧(∀ i (h:i < fs.length)(h2:i < svs.length),SlA w svs[i] fs[i].slots)∧fs.length≤1000000
theorem FmA.ext {w w':World}{v:Value}{fs:List Form}(h:FmA w v fs)(hb:Below w.heap.size w w'):FmA w' v fs:=by
 obtain⟨A,c,svs,e,h1,h2,h3,h4⟩:=h;exact⟨A,c,svs,e,h1,(Reads.below h2 hb).more hb.size,fun i h h'=>(h3 i h h').ext hb,h4⟩
theorem FmA.form {w:World}{v:Value}{fs:List Form}(h:FmA w v fs):∃ A c,v=.slice A fs.length c:=by
 obtain⟨A,c,svs,e,-⟩:=h;exact⟨A,c,e⟩
theorem FmA.at_ {w:World}{v:Value}{fs:List Form}{k:Nat}(h:FmA w v fs)(hk:k < fs.length):∃ b o c sv,v=.slice (some ⟨b,o,none⟩) fs.length c∧b < w.heap.size∧w.cell? ⟨b,o+k*3,none⟩=some (.string ⟨fs[k].word.toArray⟩)∧w.cell? ⟨b,o+k*3+1,none⟩=some (.int .i64 fs[k].kind)∧w.cell? ⟨b,o+k*3+2,none⟩=some sv∧SlA w sv fs[k].slots:=by
 obtain⟨A,c,svs,e,h1,h2,h3,h4⟩:=h;obtain⟨ad,rfl,hb,hc⟩:=h2.2 (by omega);have hz:(fs.zip svs).length=fs.length:=by rw[List.length_zip];omega
 have f0:=flat3g formCells (fun _=>rfl) (fs.zip svs) 0 (by omega) 0 (by omega);have h0:=hc _ _ f0;obtain⟨b,o,sp⟩:=ad;obtain rfl:=spot_none h0;have hzk:(fs.zip svs)[k]'(by omega)=(fs[k],svs[k]'(by omega)):=List.getElem_zip;have g:∀ i,i < 3→∀ u,(formCells (fs[k],svs[k]'(by omega)))[i]?=some u→w.cell? ⟨b,o+k*3+i,none⟩=some u:=fun i hi u hu=>by
  have:=hc _ _ ((flat3g formCells (fun _=>rfl) (fs.zip svs) k (by omega) i hi).trans (by rw[hzk];exact hu));rw[addr_add] at this;rw[← this,show o+k*3+i=o+(3*k+i) by omega]
 exact⟨b,o,c,_,e,hb,g 0 (by omega) _ rfl,g 1 (by omega) _ rfl,g 2 (by omega) _ rfl,h3 k hk (by omega)⟩
theorem FmA.lit (w:World)(cs:Array Value)(fs:List Form)(svs:List Value)(hn:svs.length=fs.length)(hc:cs.toList=(fs.zip svs).flatMap formCells) (h:∀ i (h:i < fs.length)(h2:i < svs.length),SlA w svs[i] fs[i].slots) (hl:fs.length≤1000000):FmA (w.alloc (.cells cs 52)) (.slice (some ⟨w.heap.size,0,none⟩) fs.length fs.length) fs:=by
 have hs:cs.size=fs.length*3:=by
  rw[← Array.length_toList,hc];clear hc h hl;induction fs generalizing svs with
  | nil=>simp
  | cons a l ih=>
   cases svs with
   | nil=>simp at hn
   | cons b m=>rw[List.zip_cons_cons,List.flatMap_cons,List.length_append,ih m (by simpa using hn),List.length_cons];show 3+_=_;omega
 have h1:=World.ownsRow_lit (base:=w.heap.size) (e:=52) (size:=3) w cs fs.length (Nat.le_refl _) (by unfold maxLen;omega) hs;rw[hc] at h1;exact⟨_,_,svs,rfl,hn,Reads.of_own h1,fun i h2 h3=>(h i h2 h3).ext ((Below.refl _ w).alloc (Nat.le_refl _) _),hl⟩
end Go.Proofs.YtcfelnhmifkelaaGreatDoor
namespace Go.Proofs.YtcfelnhmifkelaaGreatDoor
open Lib(hid)
open Go.RowKit
set_option maxRecDepth 100000
set_option linter.unusedVariables false
set_option linter.unusedSimpArgs false
theorem Tryz.sizeSlot:(Tryz.prog.info? 60).map (·.size)=some 5:=by kernel_rfl
theorem Tryz.infoSlot:(Tryz.prog.info? 60).map (fun i=>(i.zero,i.size,i.bytes))=some (some (.agg #[.int .i64 0,.string ⟨#[]⟩,.nilFunc,.int .i64 0,.int .i64 0]),5,48):=by kernel_rfl
theorem is_any (t:ByteArray)(w:World):Calls Tryz.prog 55 #[.string t] w fun e w'=>e=.returned (.agg #[.int .i64 0,.string t,.nilFunc,.int .i64 0,.int .i64 0])∧Below w.heap.size w w':=by
 go_enter Tryz.func55,Tryz.ntmps55;go_wp2;refine bodyPost_ret (results_cell_row Tryz.results55 _ _ w.heap.size 60 #[.int .i64 0,.string t,.nilFunc,.int .i64 0,.int .i64 0] (0,0) _ rfl ?_ Tryz.underlying60 rfl Tryz.sizeSlot) rfl ?_
 ·exact heap_alloc_new w _
 ·exact⟨rfl,(Below.refl _ w).alloc (Nat.le_refl _) _⟩
theorem fld1_any (g:Nat)(w:World):Calls Tryz.prog 56 #[.pointer (some ⟨g,0,none⟩)] w fun e w'=>e=.returned (.pointer (some ⟨g,1,none⟩))∧w=w':=by
 go_enter Tryz.func56,Tryz.ntmps56;go_wp2;go_ret;exact⟨rfl,rfl⟩
theorem fld2_any (g:Nat)(w:World):Calls Tryz.prog 57 #[.pointer (some ⟨g,0,none⟩)] w fun e w'=>e=.returned (.pointer (some ⟨g,2,none⟩))∧w=w':=by
 go_enter Tryz.func57,Tryz.ntmps57;go_wp2;go_ret;exact⟨rfl,rfl⟩
theorem fld3_any (g:Nat)(w:World):Calls Tryz.prog 62 #[.pointer (some ⟨g,0,none⟩)] w fun e w'=>e=.returned (.pointer (some ⟨g,3,none⟩))∧w=w':=by
 go_enter Tryz.func62,Tryz.ntmps62;go_wp2;go_ret;exact⟨rfl,rfl⟩
theorem fld4_any (g:Nat)(w:World):Calls Tryz.prog 63 #[.pointer (some ⟨g,0,none⟩)] w fun e w'=>e=.returned (.pointer (some ⟨g,4,none⟩))∧w=w':=by
 go_enter Tryz.func63,Tryz.ntmps63;go_wp2;go_ret;exact⟨rfl,rfl⟩
theorem fld7_any (g:Nat)(w:World):Calls Tryz.prog 58 #[.pointer (some ⟨g,0,none⟩)] w fun e w'=>e=.returned (.pointer (some ⟨g,7,none⟩))∧w=w':=by
 go_enter Tryz.func58,Tryz.ntmps58;go_wp2;go_ret;exact⟨rfl,rfl⟩
theorem fld8_any (g:Nat)(w:World):Calls Tryz.prog 59 #[.pointer (some ⟨g,0,none⟩)] w fun e w'=>e=.returned (.pointer (some ⟨g,8,none⟩))∧w=w':=by
 go_enter Tryz.func59,Tryz.ntmps59;go_wp2;go_ret;exact⟨rfl,rfl⟩
theorem fld9_any (g:Nat)(w:World):Calls Tryz.prog 60 #[.pointer (some ⟨g,0,none⟩)] w fun e w'=>e=.returned (.pointer (some ⟨g,9,none⟩))∧w=w':=by
 go_enter Tryz.func60,Tryz.ntmps60;go_wp2;go_ret;exact⟨rfl,rfl⟩
theorem wpList_cat {P:Program}{wr:World}{ops:Array Oper}{rest:List Oper}{o:Oper}{a:Act}{Q:Exit→Act→World→Prop}(hgd:o.guard=none)(s x:Operand)(t:TypeId)
  (ho:o.op=.call { callee:=.builtin .append,args:=#[s,x],argTypes:=#[t,t] })
  (base:Nat) (e:TypeId) (z:Value) (size bytes:Nat) (ht:P.underlying t=some (.slice e)) (hi:(P.info? e).map (fun i=>(i.zero,i.size,i.bytes))=some (some z,size,bytes))
  (hzs:z.cells.size=size) (hsz:0 < size)
  (v:Value) (n:Nat) (xs:List Value) (hs:a.eval s=v) (hown:wr.ownsRow base e size v n xs)
  (A:Option Addr) (m c:Nat) (news:List Value) (hx:a.eval x=.slice A m c) (hr:Reads wr wr.heap.size size A m news) (h1:∀ u ∈ news,u.oneCell'=true)
  (h63:n+m≤maxLen) (hbytes:(n+m)*bytes≤140737488355328) (hbase:base≤wr.heap.size)
  (h:∀ v' w',w'.ownsRow base e size v' (n+m) (xs ++ news)→Below base wr w'→wpList P ops Q rest (a.put o.dst v') w') :
  wpList P ops Q (o :: rest) a wr:=by
 obtain⟨i0,hi0,hz0,hz1,hz2⟩:=info_parts hi;refine wpList_append_any wr hgd s x t ho base e i0 z size bytes ht hi0 hz0 hz1 hz2 hzs hsz v n xs hs hown wr.heap.size A m c news hx hr h1 h63 hbytes hbase ?_;intro v' w' hown' hg _;refine h v' w' hown' ((Below.refl base wr).grown hg hbase ?_);intro k hk;rcases hown.2 with ⟨rfl,_⟩ | ⟨g,cap,cur,rfl,h4,_⟩
 ·simp[Value.ownBlock] at hk
 ·simp[Value.ownBlock] at hk;omega
theorem slotCells_one (ss:List Slot):∀ u ∈ ss.flatMap slotCells,u.oneCell'=true:=fun u hu=>by
 obtain⟨s,-,h⟩:=List.mem_flatMap.1 hu;unfold slotCells at h;simp only[List.mem_cons,List.not_mem_nil,or_false] at h;rcases h with rfl | rfl | rfl | rfl | rfl
 ·rfl
 ·rfl
 ·unfold fldV
  repeat' split
  all_goals rfl
 ·rfl
 ·rfl
def OwnSl (w:World)(base:Nat)(v:Value)(ss:List Slot):Prop:=w.ownsRow base 60 5 v ss.length (ss.flatMap slotCells)
theorem OwnSl.sla {w:World}{base:Nat}{v:Value}{ss:List Slot}(h:OwnSl w base v ss)(hl:ss.length≤1000000):SlA w v ss:=by
 obtain⟨A,c,e,⟨h1,-⟩,-⟩:=own_form h;exact⟨A,c,e,h1,hl⟩
def RetSl (ss:List Slot)(w:World)(e:Ending)(w':World):Prop:=∃ v,e=.returned v∧SlA w' v ss∧Below w.heap.size w w'
theorem takeF_len:∀ (ls:List (List Slot)) (k:Nat),((ls.take k).flatten).length≤ls.flatten.length
 | [],k=>by simp
 | l :: ls,0=>by simp
 | l :: ls,k+1=>by
  rw[List.take_succ_cons,List.flatten_cons,List.flatten_cons,List.length_append,List.length_append];have:=takeF_len ls k;omega
theorem meas_step5 {n k:Nat}(h:k < n):n - (intOf (.int .i64 ((k:Int)+1))).toNat < n - (intOf (.int .i64 (k:Int))).toNat:=by
 show n - ((k:Int)+1).toNat < n - (k:Int).toNat;omega
set_option maxHeartbeats 2000000 in
theorem list_any (v:Value)(ls:List (List Slot)) (w:World)(h:SsA w v ls)(hn:ls.flatten.length≤1000000) :
  Calls Tryz.prog 61 #[v] w (RetSl ls.flatten w):=by
 obtain⟨A,c,rfl⟩:=h.form;have hl6:=h.le;have hm6:ls.length≤9223372036854775807:=by omega
 have HS:=hid h;have HN:=hid hn;clear h hn hl6;go_enter Tryz.func61,Tryz.ntmps61;go_wp2;go_loopw [3,8] (fun ov iv wr=>∃ k:Nat,k≤ls.length∧iv=.int .i64 k∧Hid (OwnSl wr w.heap.size ov (ls.take k).flatten)∧Hid (Below w.heap.size w wr)) (fun _ iv _=>ls.length - (intOf iv).toNat)
 case atStart=>exact⟨0,Nat.zero_le _,rfl,hid (World.ownsRow_nil _ _ _ _),hid (Below.refl _ _)⟩
 case round=>
  obtain⟨k,hk,rfl,HO,HB⟩:=hrel;by_cases hlt:k < ls.length
  ·obtain⟨b,o,c',sv,e,-,hc,hsv⟩:=(HS.out.ext HB.out).at_ hlt;injection e with e1 e2 e3
   subst e1 e3;obtain⟨B,c2,rfl,hr,-⟩:=hsv;have hS:(ls.take (k+1)).flatten=(ls.take k).flatten ++ ls[k]:=by rw[List.take_succ_eq_append_getElem hlt,List.flatten_append];simp
   have hB6:((ls.take k).flatten).length+ls[k].length≤1000000:=by
    have:=takeF_len ls (k+1);rw[hS,List.length_append] at this;exact Nat.le_trans this HN.out
   have h63:((ls.take k).flatten).length+ls[k].length≤maxLen:=by unfold maxLen;omega
   have hby:(((ls.take k).flatten).length+ls[k].length)*48≤140737488355328:=by omega
   obtain⟨sk,hsk⟩:∃ sk,sk=ls[k]:=⟨_,rfl⟩
   rw[← hsk] at hr hS hB6 h63 hby hc;obtain⟨fl,hfl⟩:∃ fl,fl=(ls.take k).flatten:=⟨_,rfl⟩
   rw[← hfl] at HO hS hB6 h63 hby;have HLT:=hid hlt;have HR:=hid hr;have HSS:=hid hS;have H63:=hid h63;have HBY:=hid hby;clear hr hS hB6 h63 hby hsk hfl;go_wp2_with (at_builtin;refine wpList_cat rfl _ _ 50 rfl w.heap.size 60 _ 5 48 Tryz.underlying50 Tryz.infoSlot rfl (by decide) _ _ _ rfl HO.out B sk.length c2 _ rfl HR.out (slotCells_one _) H63.out HBY.out HB.out.size ?_);intro v' w' hown' hb';have HO2:Hid (OwnSl w' w.heap.size v' (ls.take (k+1)).flatten):=hid (by rw[HSS.out];unfold OwnSl;rw[List.length_append,List.flatMap_append];exact hown');have HB2:=hid (HB.out.trans hb');clear hown' hb' hc HR HSS H63 HBY;go_wp2;go_roundw
   case rel=>exact⟨k+1,HLT.out,by go_num,HO2,HB2⟩
   case measure=>exact meas_step5 HLT.out
  ·have hke:k=ls.length:=by omega
   subst hke;have HO2:=HO.out;rw[List.take_length] at HO2;have HSL:=hid (HO2.sla HN.out);clear HO2;go_wp2;go_ret;exact⟨_,rfl,HSL.out,HB.out⟩
end Go.Proofs.YtcfelnhmifkelaaGreatDoor
