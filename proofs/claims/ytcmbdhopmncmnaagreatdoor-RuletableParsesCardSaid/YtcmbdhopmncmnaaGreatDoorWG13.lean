/-
  texts Pars11 EqS11 Same11 Builder BldK11: parts of the proof; conditions stand with each theorem.
-/
import Derived.Test.YtcmbdhopmncmnaaGreatDoorWG12
import Derived.Test.YtcmbdhopmncmnaaGreatDoorWG1
import Derived.Test.YtcmbdhopmncmnaaGreatDoorRows
import Derived.Test.YtcmbdhopmncmnaaGreatDoorWG0
import Derived.Lib.Strings
import Derived.Lib.Slices
import Derived.Lib.Walk
import Derived.Lib.Builder
import Derived.Lib.AppendStr
import Derived.Lib.UnsafeStr
import Derived.Laws.Externs
namespace Go.Proofs.YtcmbdhopmncmnaaGreatDoor
open Lib(hid)
open Go.RowKit Go.Maps Go.Shelf
set_option maxRecDepth 100000
set_option linter.unusedVariables false
set_option linter.unusedSimpArgs false
attribute [local go_sem] Oper.semAt_some
def lnsAt (b:Nat):Value:=.func (.func 84) #[] #[.pointer (some ⟨b,0,none⟩)]
set_option maxHeartbeats 1000000 in
theorem linesfn_any (s:ByteArray)(w:World):Calls Tryz.prog 47 #[.string s] w fun e w'=>e=.returned (lnsAt w.heap.size)∧w'=w.alloc (.cells #[.string s] 9):=by
 go_enter Tryz.func47,Tryz.ntmps47;go_wp2;go_ret;exact⟨rfl,rfl⟩
def RetTbl (r:TabL × Int × Int)(w:World)(e:Ending)(w':World):Prop:=∃ hA hc vA vc rA rc t,e=.returned (.tuple #[tabV hA hc vA vc rA rc t,.int .i64 r.2.1,.int .i64 r.2.2])∧TabR w' hA vA rA t∧t.tab=r.1∧Below w.heap.size w w'
theorem run_loadVar_one11 {P:Program}{w:World}{ty:TypeId}{d:TypeDesc}{a:Addr}{v:Value}(hu:P.underlying ty=some d)(hd:(match d with | .struct _ | .array _ _=>true | _=>false)=false)(hc:w.cell? a=some v) :
  (loadVar ty a).run P w=.ok v w:=by
 have hagg:(isAgg ty).run P w=.ok false w:=by
  unfold isAgg;rw[Sem.run_bind,run_underlying hu w];cases d <;> simp_all
 simp[loadVar,Sem.run_bind,hagg,hc,Result.andThen]
theorem results_tee {P:Program}{fn:Func}{p u v:Tmp}{tp tu tv:TypeId}{dp du dv:TypeDesc}{g:Nat}{t:TypeId}{cs:Array Value}{fr:Nat × Nat}{b c:Addr}{vb vc:Value}{w:World}(h:fn.results=#[.cell p tp,.cell u tu,.cell v tv])(tmps:Array Value)
  (hp:tmps.getD p undef=.pointer (some ⟨g,0,none⟩)) (hq:tmps.getD u undef=.pointer (some b)) (hr:tmps.getD v undef=.pointer (some c))
  (hg:w.heap[g]?=some (.cells cs t fr)) (hup:P.underlying tp=some dp) (hdp:(match dp with | .struct _ | .array _ _=>true | _=>false)=true) (hi:(P.info? tp).map (·.size)=some cs.size)
  (huq:P.underlying tu=some du) (hdq:(match du with | .struct _ | .array _ _=>true | _=>false)=false) (hur:P.underlying tv=some dv) (hdr:(match dv with | .struct _ | .array _ _=>true | _=>false)=false)
  (hb:w.cell? b=some vb) (hc:w.cell? c=some vc):(results fn tmps).run P w=.ok (.tuple #[.agg cs,vb,vc]) w:=by
 have hp':tmps[p]?.getD undef=.pointer (some ⟨g,0,none⟩):=by simpa using hp
 have hq':tmps[u]?.getD undef=.pointer (some b):=by simpa using hq
 have hr':tmps[v]?.getD undef=.pointer (some c):=by simpa using hr
 simp[results,h,hp',hq',hr',asAddr,run_loadVar_row w g t tp cs fr dp hg hup hdp hi,run_loadVar_one11 huq hdq hb,run_loadVar_one11 hur hdr hc,Sem.run_bind,Result.andThen]
theorem nR1 (R:Nat):R+1≠R:=by omega
theorem nR2 (R:Nat):R+1+1≠R:=by omega
theorem nR21 (R:Nat):R+1+1≠R+1:=by omega
theorem blk_put11 {w:World}{g D:Nat}{t:TypeId}{cs:Array Value}(h:Blk w g t cs)(hD:D≠g)(o:Obj):Blk (w.putObj D o) g t cs:=(World.putObj_heap_other (Ne.symm hD)).trans h
def InP (R:Nat)(OP:Blks)(k:Nat):Prop:=k≤R+1+1∨k=R+1+1+1+1+1∨OP k
def PI11 (w:World)(R:Nat)(pre:List LineX)(O:Blks)(W:World):Prop:=
 ∃ OP st hA hc vv rv vs rs D,(∀ k,O k ↔ InP R OP k)∧(∀ k,OP k→R+1+1 < k∧k≠R+1+1+1+1+1)∧PrM OP R (R+1+1+1+1) (R+1+1+1) hA hc vv rv vs rs D st W∧Blk W R 26 zeroTab∧Blk W (R+1) 3 #[.int .i64 0]∧Blk W (R+1+1) 33 #[.int .i64 0]∧
  Blk W (R+1+1+1+1+1) 63 #[.pointer (some ⟨R+1+1+1+1,0,none⟩)]∧Below R w W∧runX PSt.zero (pre.map lnX)=some st
def PX11 (w:World)(R:Nat)(pre:List LineX)(O:Blks)(W:World):Prop:=
 ∃ n c,(∀ k,k≤R+1+1→O k)∧Blk W R 26 zeroTab∧Blk W (R+1) 3 #[.int .i64 n]∧Blk W (R+1+1) 33 #[.int .i64 c]∧Below R w W∧∀ rest,foldW PSt.zero (pre.map lnX ++ rest)=(zero11,n,c)
theorem below_kept {w W W':World}{R:Nat}{S:Nat→Prop}(h:Below R w W)(hR:R≤W.heap.size)(hk:Kept S W W')(hs:∀ k,k < R→¬ S k):Below R w W':=h.trans (hk.to_below hR hs)
theorem PI11.local_ (w:World)(R:Nat)(hR:R=w.heap.size):LocalO (PI11 w R):=by
 rintro xs O W W' ⟨OP,st,hA,hc,vv,rv,vs,rs,D,h1,h2,h3,h4,h5,h6,h7,h8,h9⟩ hk;have hn:∀ k,InP R OP k→¬ ¬ O k:=fun k h h'=>h' ((h1 k).2 h);exact⟨OP,st,hA,hc,vv,rv,vs,rs,D,h1,h2,h3.kept (hk.mono fun k _ h h'=>h ((h1 k).2 (.inr (.inr h')))),hk.blk h4 (hn _ (.inl (by omega))),hk.blk h5 (hn _ (.inl (by omega))),hk.blk h6 (hn _ (.inl (Nat.le_refl _))),hk.blk h7 (hn _ (.inr (.inl rfl))),
  below_kept h8 (by rw[hR];exact h8.size) hk (fun k hk2=>hn k (.inl (by omega))),h9⟩
theorem PX11.local_ (w:World)(R:Nat)(hR:R=w.heap.size):LocalO (PX11 w R):=by
 rintro xs O W W' ⟨n,c,h1,h4,h5,h6,h8,h9⟩ hk;exact⟨n,c,h1,hk.blk h4 (fun h=>h (h1 _ (by omega))),hk.blk h5 (fun h=>h (h1 _ (by omega))),hk.blk h6 (fun h=>h (h1 _ (Nat.le_refl _))),below_kept h8 (by rw[hR];exact h8.size) hk (fun k hk2 h=>h (h1 _ (by omega))),h9⟩
theorem PI11.inO {w:World}{R:Nat}:∀ xs O W,PI11 w R xs O W→InO O W:=by
 rintro xs O W ⟨OP,st,hA,hc,vv,rv,vs,rs,D,h1,h2,h3,h4,h5,h6,h7,h8,h9⟩ k hk;rcases (h1 k).1 hk with h | h | h
 ·exact Nat.lt_of_le_of_lt h h6.lt
 ·rw[h];exact h7.lt
 ·exact h3.inO k h
theorem vh_map_len {vs:List Vh}{l:List (List Int)}(h:vs.map Vh.zs=l):vs.length=l.length:=by rw[← h,List.length_map]
theorem rh_map_len {vs:List Rh}{l:List Rw}(h:vs.map Rh.rw_=l):vs.length=l.length:=by rw[← h,List.length_map]
theorem ok_bounds {s:ByteArray}{pre rest:List LineX}{x:LineX}(hs:s.size≤65536)(h:SLn s (pre ++ x :: rest)):pre.length≤65537∧x.2≠[]∧x.2.length≤1000000∧∀ y ∈ x.2,y.size≤2147483648:=by
 unfold SLn at h;have h1:=congrArg List.length h;rw[List.length_map,List.length_append] at h1;have h2:=linesX_len (lines11 s.data.toList) 0;obtain⟨h3,h3'⟩:=lines_len s.data.toList;have hsz:s.data.toList.length=s.size:=rfl;have hm:lnX x ∈ linesX (lines11 s.data.toList) 0:=by rw[← h];exact List.mem_map.2 ⟨x,by simp,rfl⟩
 obtain⟨-,-,m3,l,m4,m5⟩:=linesX_mem _ _ _ hm;have m6:=h3' l m4;obtain⟨b1,b2⟩:=words_bound l;have m5':wdsB x.2=wordsL l:=m5;have hl:x.2.length=(wordsL l).length:=by rw[← m5'];unfold wdsB;rw[List.length_map]
 refine⟨by omega,fun e=>m3 ?_,by omega,fun y hy=>?_⟩
 ·show wdsB x.2=[]
  rw[e];rfl
 ·have hy2:y.data.toList ∈ wordsL l:=by rw[← m5'];exact List.mem_map.2 ⟨y,hy,rfl⟩
  have h6:=b2 _ hy2;have hsz:y.data.toList.length=y.size:=rfl;omega
set_option maxHeartbeats 4000000 in
theorem parse_any (s:ByteArray)(w:World)(hg:GCell w)(hG:GMat w)(hSG:SymG w)(hl1:2 < w.heap.size)(hs:s.size≤65536) :
  Calls Tryz.prog 18 #[.string s] w (RetTbl (parse11 s.data.toList) w):=by
 have d0:decide ((65536:Int) < s.size)=false:=decide_eq_false (by omega);have hmm:=@run_makeMap Tryz.prog;have hL:=fun w=>(callsIn_wide (n:=8)).2 (linesfn_any s w);have HGC:=hid hg;have HGM:=hid hG;have HSG:=hid hSG;have HS:=hid hs;have HPF:Hid (parse11 s.data.toList=foldW PSt.zero (linesX (lines11 s.data.toList) 0)):=hid (parse_fold _ (by show s.size≤_;exact hs));obtain⟨res,hres⟩:∃ r,r=parse11 s.data.toList:=⟨_,rfl⟩
 rw[← hres] at HPF ⊢;obtain⟨R,hR⟩:∃ R,R=w.heap.size:=⟨_,rfl⟩
 rw[← hR] at hl1;have HL1:=hid hl1;have HR:=hid hR;clear hres hs hg hG hSG hl1;refine callsIn_wide (n:=9) |>.1 ?_
 refine callsIn_of_wp_marks Tryz.func18 rfl trivial ?_ rfl;simp only[Tryz.ntmps18,List.size_toArray,List.length_cons,List.length_nil,Nat.reduceAdd,Nat.reduceSub,Array.replicate_succ,Array.replicate_zero,List.push_toArray,List.append_toArray,List.nil_append,List.cons_append]
 gi_wp2
 rw[← hR];obtain⟨W3,hW3⟩:∃ W3,W3=((w.alloc (.cells zeroTab 26)).alloc (.cells #[.int .i64 0] 3)).alloc (.cells #[.int .i64 0] 33):=⟨_,rfl⟩
 have hz3:W3.heap.size=R+1+1+1:=by rw[hW3,hR];simp
 have hB3:Below R w W3:=by
  rw[hW3,hR];exact (((Below.refl _ w).alloc (Nat.le_refl _) _).alloc (by simp) _).alloc (by simp;omega) _
 have k0:Blk W3 R 26 zeroTab:=by rw[hW3,hR];exact ((Blk.new w _ _).alloc _).alloc _
 have k1:Blk W3 (R+1) 3 #[.int .i64 0]:=by
  rw[hW3];have h:=Blk.new (w.alloc (.cells zeroTab 26)) 3 #[.int .i64 0];rw[World.size_alloc,← hR] at h;exact h.alloc _
 have k2:Blk W3 (R+1+1) 33 #[.int .i64 0]:=by
  rw[hW3];have h:=Blk.new ((w.alloc (.cells zeroTab 26)).alloc (.cells #[.int .i64 0] 3)) 33 #[.int .i64 0];rw[World.size_alloc,World.size_alloc,← hR] at h;exact h
 unfold zeroTab at hW3;rw[← hW3];clear hW3;obtain⟨W6,hW6⟩:∃ W6,W6=((W3.alloc (.map #[] 0)).alloc (.cells #[.int .i64 0,.int .i64 0,.slice none 0 0,.slice none 0 0,.slice none 0 0,.map (some (R+1+1+1)),.int .i64 0] 66)).alloc (.cells #[.pointer (some ⟨R+1+1+1+1,0,none⟩)] 63):=⟨_,rfl⟩
 rw[← hW6];have hz6:W6.heap.size=R+1+1+1+1+1+1:=by rw[hW6];simp[hz3]
 have hB6:Below R w W6:=by
  rw[hW6];exact ((hB3.alloc (by omega) _).alloc (by rw[World.size_alloc];omega) _).alloc (by rw[World.size_alloc,World.size_alloc];omega) _
 replace k0:Blk W6 R 26 zeroTab:=by rw[hW6];exact ((k0.alloc _).alloc _).alloc _
 replace k1:Blk W6 (R+1) 3 #[.int .i64 0]:=by rw[hW6];exact ((k1.alloc _).alloc _).alloc _
 replace k2:Blk W6 (R+1+1) 33 #[.int .i64 0]:=by rw[hW6];exact ((k2.alloc _).alloc _).alloc _
 have k4:Blk W6 (R+1+1+1+1) 66 (parC PSt.zero (.slice none 0 0) (.slice none 0 0) (.slice none 0 0) (R+1+1+1)):=by
  rw[hW6];have h:=Blk.new (W3.alloc (.map #[] 0)) 66 #[.int .i64 0,.int .i64 0,.slice none 0 0,.slice none 0 0,.slice none 0 0,.map (some (R+1+1+1)),.int .i64 0];rw[World.size_alloc,hz3] at h;exact h.alloc _
 have k5:Blk W6 (R+1+1+1+1+1) 63 #[.pointer (some ⟨R+1+1+1+1,0,none⟩)]:=by
  rw[hW6];have h:=Blk.new ((W3.alloc (.map #[] 0)).alloc (.cells #[.int .i64 0,.int .i64 0,.slice none 0 0,.slice none 0 0,.slice none 0 0,.map (some (R+1+1+1)),.int .i64 0] 66)) 63 #[.pointer (some ⟨R+1+1+1+1,0,none⟩)];rw[World.size_alloc,World.size_alloc,hz3] at h;exact h
 have km:MapA W6 (R+1+1+1) 0 (.map []):=by
  rw[hW6];have h:=World.ownsMap_made (H:=Unit) W3 Tryz.prog 9 (plainElem Tryz.prog 3);rw[hz3] at h;exact (((Kept.refl (fun _=>False) _).alloc _).alloc _).map h (fun h=>h)
 have hPr:PrM (fun k=>k=R+1+1+1∨k=R+1+1+1+1) R (R+1+1+1+1) (R+1+1+1) none 0 (.slice none 0 0) (.slice none 0 0) [] [] (.map []) PSt.zero W6:=by
  refine⟨k4,Pts.nil,OwnV.nil _ _ _ _,?_,(fun x h=>absurd h (by simp)),km,KnownW.nil,rfl,rfl,rfl,.inr rfl,.inl rfl,(fun ad e=>by cases e),(fun g e=>by cases e),(fun x h=>absurd h (by simp)),(fun g e=>by cases e),(fun x h=>absurd h (by simp)),(fun x h=>absurd h (by simp)),(fun ad e=>by cases e),?_⟩
  ·exact World.ownsRow_nil _ _ _ _
  ·rintro k (rfl | rfl) <;> omega
 clear hW6 k4 km hB3 hz3;refine⟨trivial,(hL _).mono ?_⟩;rintro e w1 ⟨rfl,hw1⟩;rw[hz6];obtain⟨W7,hW7⟩:∃ W,W=W6.alloc (.cells #[.string s] 9):=⟨_,rfl⟩
 rw[← hW7] at hw1;have hb7:Below W6.heap.size W6 W7:=by rw[hW7];exact (Below.refl _ W6).alloc (Nat.le_refl _) _
 have hz7:W7.heap.size=R+1+1+1+1+1+1+1:=by rw[hW7];simp[hz6]
 have hbx:W7.cell? ⟨R+1+1+1+1+1+1,0,none⟩=some (.string s):=by
  have h:=(Blk.new W6 9 #[.string s]).cell 0;rw[hz6,← hW7] at h;exact h
 have hB7:Below R w W7:=hB6.trans (hb7.mono (by omega));have HI0:PI11 w R [] (InP R (fun k=>k=R+1+1+1∨k=R+1+1+1+1)) W7:=
  ⟨_,_,_,_,_,_,_,_,_,fun k=>Iff.rfl,fun k h=>by rcases h with rfl | rfl <;> omega,hPr.ext hb7,k0.below hb7 k0.lt,k1.below hb7 k1.lt,k2.below hb7 k2.lt,k5.below hb7 k5.lt,hB7,rfl⟩
 have hgl:Below w.heap.size w W7:=by rw[← hR];exact hB7
 have hsq:=lines_seq s HS.out (R+1+1+1+1+1+1) W7 hbx (HGC.out.ext hgl) R HL1.out (by omega);have HZ7:=hid hz7;have HSQ:=hid hsq;have HI:=hid HI0;have hw2:=hw1.symm;clear hw1 hb7 hbx hB7 hgl k0 k1 k2 k5 hPr hB6 hz6 hL hW7 hR hz7 hsq HI0;subst hw2
 gi_wp2
 refine wpIn_rangeO (gf:=84) (lb:=#[.pointer (some ⟨R+1+1+1+1+1+1,0,none⟩)]) rfl (enters_of Tryz.func84 (by kernel_rfl) rfl) HSQ.out (by have:=HZ7.out;omega) (Below.refl _ _) ?ps ?ok
  (PI11 w R) (PX11 w R) (PI11.local_ w R HR.out) (PX11.local_ w R HR.out) PI11.inO _ HI.out
  (fun vs=>{ tmps:=#[.string s,undef,.pointer (some ⟨R,0,none⟩),.pointer (some ⟨R+1,0,none⟩),.pointer (some ⟨R+1+1,0,none⟩),.pointer (some ⟨R+1+1+1+1+1,0,none⟩),vs.getD 0 undef,vs.getD 1 undef,undef,.string s,.int .i64 s.size,.bool false,undef,.map (some (R+1+1+1)),
   .agg #[.int .i64 0,.int .i64 0,.slice none 0 0,.slice none 0 0,.slice none 0 0,.map (some (R+1+1+1)),.int .i64 0],.pointer (some ⟨R+1+1+1+1,0,none⟩),.string s,lnsAt (R+1+1+1+1+1+1),vs.getD 0 undef,vs.getD 1 undef,
   undef,undef,undef,undef,undef,undef,undef,undef,undef,undef,undef,undef,undef,undef,undef,undef,undef,undef],defers:=[] }) ?assign ?body ?done ?stop
 case ps=>
  rintro pre x vs O W ⟨gw,rfl,-⟩;rfl
 case ok=>
  rintro pre x vs O O1 W l o o' ⟨gw,h1,h2,h3,h4⟩ hO hl ho;exact⟨gw,h1,h2.putObj hl ho o',fun h=>h3 (hO _ h),h4⟩
 case assign=>
  rintro l pre x vs O W K ⟨gw,rfl,-⟩ hK
  gi_wp2
  exact hK
 case body=>
  clear HSQ HI d0 hmm;rintro l pre x vs O W hWs ⟨OP,st,hA,hc,vv,rv,vs,rs,D,h1,h2,h3,h4,h5,h6,h7,h8,h9⟩ ⟨gw,rfl,hsts,hgw,rest,hrest⟩;obtain⟨n,ws⟩:=x;have hRw:R≤w.heap.size:=Nat.le_of_eq HR.out;have hRW:R≤W.heap.size:=by have:=HZ7.out;omega
  obtain⟨b1,b2,b3,b4⟩:=ok_bounds HS.out hrest;have hgd:=runX_good _ GoodP.zero h9;rw[List.length_map,Nat.zero_add] at hgd;have hgl:Below w.heap.size w W:=by rw[← HR.out];exact h8
  obtain⟨hd,t,names⟩:=st;have hcall:=pline_any gw ws W h3 hsts (fun h=>hgw ((h1 gw).2 (.inr (.inr h)))) b4 b3 b2 (by rw[vh_map_len h3.evs];exact hgd.vars) (by rw[rh_map_len h3.ers];exact hgd.rows) (Nat.le_trans hgd.hood (by decide)) hRW (HGM.out.ext hgl) (fun k h=>by have:=(h2 k h).1;have:=HL1.out;omega) (Sts.ext HSG.out hgl) (fun k h=>by have:=(h2 k h).1;have:=HL1.out;omega) (by have h:hd≤pre.length:=hgd.head;omega);have hcin:=(callsIn_wide (n:=6)).2 hcall;have hfold:=foldW_run (pre.map lnX) (lnX (n,ws) :: rest.map lnX) PSt.zero _ h9;obtain⟨r,hr⟩:∃ r,r=stepW ⟨hd,t,names⟩ (wdsB ws):=⟨_,rfl⟩
  have hrun:=runX_snoc (pre.map lnX) PSt.zero _ (lnX (n,ws)) h9;have hr':stepW ⟨hd,t,names⟩ (lnX (n,ws)).2=r:=hr.symm;rw[hr'] at hrun;rw[← hr] at hcin;have HCIN:=hid hcin;have HRUN:=hid hrun;have HR2:=hid hr';have HP:=hid h3;have HB:=hid h8;have H1:=hid h1;have H2:=hid h2;have H9:=hid h9;have HRW:=hid hRW;have K0:=hid h4;have K1:=hid h5;have K2:=hid h6;have K5:=hid h7;have c5:=h7.cell 0;clear hrest b1 b2 b3 b4 hgd hgl hcall hfold hr hr' hrun hcin hsts hgw h1 h2 h3 h4 h5 h6 h7 h8 h9 hWs hRw hRW
  gi_wp2
  refine⟨trivial,CallsIn.inRound l (HCIN.out.mono ?_)⟩;rintro e W1 ⟨rfl,hk,hz⟩;have HK:=hid hk;have HZ:=hid hz;have hkO:Kept (fun k=>O k∧R≤k) W W1:=hk.mono fun k _ h=>⟨(H1.out k).2 (.inr (.inr h)),by have:=(H2.out k h).1;omega⟩
  have HKO:=hid hkO;have HB1:=hid (below_kept HB.out HRW.out hk (fun k hk2 h=>by have:=(H2.out k h).1;omega));have k0:=hk.blk K0.out (fun h=>by have:=(H2.out _ h).1;omega);have k1:=hk.blk K1.out (fun h=>by have:=(H2.out _ h).1;omega);have k2:=hk.blk K2.out (fun h=>by have:=(H2.out _ h).1;omega);have k5:=hk.blk K5.out (fun h=>(H2.out _ h).2 rfl);by_cases hc0:r.2=0
  ·have e0:(r.2 == 0)=true:=by rw[hc0];rfl
   have e1:(r.2 != 0)=false:=by rw[hc0];rfl
   obtain⟨hA',hc',vv',rv',vs',rs',D',hp'⟩:=HZ.out hc0;have HFIN:Hid (PI11 w R (pre ++ [(n,ws)]) (InP R (fun k=>OP k∨(W.heap.size≤k∧k < W1.heap.size))) W1):=hid (by
    refine⟨_,_,_,_,_,_,_,_,_,fun k=>Iff.rfl,?_,hp',k0,k1,k2,k5,HB1.out,?_⟩
    ·rintro k (h | h)
     ·exact H2.out k h
     ·have h9:=K5.out.lt;omega
    ·rw[List.map_append];refine HRUN.out.trans ?_;rw[if_neg (by rw[hc0];decide)])
   have HNEW:Hid (NewO O (InP R (fun k=>OP k∨(W.heap.size≤k∧k < W1.heap.size))) W):=hid (by
    rintro k (h | h | h | h)
    ·exact .inl ((H1.out k).2 (.inl h))
    ·exact .inl ((H1.out k).2 (.inr (.inl h)))
    ·exact .inl ((H1.out k).2 (.inr (.inr h)))
    ·exact .inr h.1)
   clear hk hz hkO k0 k1 k2 k5 hp' hc0
   gi_wp2
   exact⟨_,HKO.out,HFIN.out,HNEW.out⟩
  ·have e0:(r.2 == 0)=false:=beq_eq_false_iff_ne.2 hc0;have e1:(r.2 != 0)=true:=bne_iff_ne.2 hc0;have HC0:=hid hc0;have c00:W1.cell? ⟨R,0,none⟩=some (.int .i64 0):=k0.cell 0;have f00:=k0.frozen 0;have a1:Blk (W1.setCell ⟨R,0,none⟩ (.int .i64 0)) R 26 #[.int .i64 0,.int .i64 0,.slice none 0 0,.slice none 0 0,.slice none 0 0]:=k0.set_ 0 (.int .i64 0);have c01:(W1.setCell ⟨R,0,none⟩ (.int .i64 0)).cell? ⟨R,1,none⟩=some (.int .i64 0):=a1.cell 1;have f01:=a1.frozen 1;have a2:Blk ((W1.setCell ⟨R,0,none⟩ (.int .i64 0)).setCell ⟨R,1,none⟩ (.int .i64 0)) R 26 #[.int .i64 0,.int .i64 0,.slice none 0 0,.slice none 0 0,.slice none 0 0]:=a1.set_ 1 (.int .i64 0);have c02:((W1.setCell ⟨R,0,none⟩ (.int .i64 0)).setCell ⟨R,1,none⟩ (.int .i64 0)).cell? ⟨R,2,none⟩=some (.slice none 0 0):=a2.cell 2;have f02:=a2.frozen 2;have a3:Blk (((W1.setCell ⟨R,0,none⟩ (.int .i64 0)).setCell ⟨R,1,none⟩ (.int .i64 0)).setCell ⟨R,2,none⟩ (.slice none 0 0)) R 26 #[.int .i64 0,.int .i64 0,.slice none 0 0,.slice none 0 0,.slice none 0 0]:=a2.set_ 2 (.slice none 0 0);have c03:(((W1.setCell ⟨R,0,none⟩ (.int .i64 0)).setCell ⟨R,1,none⟩ (.int .i64 0)).setCell ⟨R,2,none⟩ (.slice none 0 0)).cell? ⟨R,3,none⟩=some (.slice none 0 0):=a3.cell 3;have f03:=a3.frozen 3;have a4:Blk ((((W1.setCell ⟨R,0,none⟩ (.int .i64 0)).setCell ⟨R,1,none⟩ (.int .i64 0)).setCell ⟨R,2,none⟩ (.slice none 0 0)).setCell ⟨R,3,none⟩ (.slice none 0 0)) R 26 #[.int .i64 0,.int .i64 0,.slice none 0 0,.slice none 0 0,.slice none 0 0]:=a3.set_ 3 (.slice none 0 0);have c04:((((W1.setCell ⟨R,0,none⟩ (.int .i64 0)).setCell ⟨R,1,none⟩ (.int .i64 0)).setCell ⟨R,2,none⟩ (.slice none 0 0)).setCell ⟨R,3,none⟩ (.slice none 0 0)).cell? ⟨R,4,none⟩=some (.slice none 0 0):=a4.cell 4;have f04:=a4.frozen 4;have a5:Blk (((((W1.setCell ⟨R,0,none⟩ (.int .i64 0)).setCell ⟨R,1,none⟩ (.int .i64 0)).setCell ⟨R,2,none⟩ (.slice none 0 0)).setCell ⟨R,3,none⟩ (.slice none 0 0)).setCell ⟨R,4,none⟩ (.slice none 0 0)) R 26 #[.int .i64 0,.int .i64 0,.slice none 0 0,.slice none 0 0,.slice none 0 0]:=a4.set_ 4 (.slice none 0 0);have b1:Blk (((((W1.setCell ⟨R,0,none⟩ (.int .i64 0)).setCell ⟨R,1,none⟩ (.int .i64 0)).setCell ⟨R,2,none⟩ (.slice none 0 0)).setCell ⟨R,3,none⟩ (.slice none 0 0)).setCell ⟨R,4,none⟩ (.slice none 0 0)) (R+1) 3 #[.int .i64 0]:=(((((k1.far (p:=⟨R,0,none⟩) (nR1 R) _).far (p:=⟨R,1,none⟩) (nR1 R) _).far (p:=⟨R,2,none⟩) (nR1 R) _).far (p:=⟨R,3,none⟩) (nR1 R) _).far (p:=⟨R,4,none⟩) (nR1 R) _)
   have c10:=b1.cell 0;have f10:=b1.frozen 0;have b1':=b1.set_ 0 (.int .i64 (n:Int));have b2:Blk ((((((W1.setCell ⟨R,0,none⟩ (.int .i64 0)).setCell ⟨R,1,none⟩ (.int .i64 0)).setCell ⟨R,2,none⟩ (.slice none 0 0)).setCell ⟨R,3,none⟩ (.slice none 0 0)).setCell ⟨R,4,none⟩ (.slice none 0 0)).setCell ⟨R+1,0,none⟩ (.int .i64 (n:Int))) (R+1+1) 33 #[.int .i64 0]:=(((((k2.far (p:=⟨R,0,none⟩) (nR2 R) _).far (p:=⟨R,1,none⟩) (nR2 R) _).far (p:=⟨R,2,none⟩) (nR2 R) _).far (p:=⟨R,3,none⟩) (nR2 R) _).far (p:=⟨R,4,none⟩) (nR2 R) _).far (p:=⟨R+1,0,none⟩) (nR21 R) _;have c20:=b2.cell 0;have f20:=b2.frozen 0;have HFIN:Hid (EndsO R (PI11 w R) (PX11 w R) O (pre ++ [(n,ws)]) W Exit.ret { tmps:=#[],defers:=[] } (((((((W1.setCell ⟨R,0,none⟩ (.int .i64 0)).setCell ⟨R,1,none⟩ (.int .i64 0)).setCell ⟨R,2,none⟩ (.slice none 0 0)).setCell ⟨R,3,none⟩ (.slice none 0 0)).setCell ⟨R,4,none⟩ (.slice none 0 0)).setCell ⟨R+1,0,none⟩ (.int .i64 (n:Int))).setCell ⟨R+1+1,0,none⟩ (.int .i64 r.2))):=hid (by
    have oR:∀ k,k≤R+1+1→O k:=fun k h=>(H1.out k).2 (.inl h);have oA:O R:=oR R (by omega);have oB:O (R+1):=oR (R+1) (by omega);have oC:O (R+1+1):=oR (R+1+1) (Nat.le_refl _);refine⟨O,?_,⟨(n:Int),r.2,oR,?_,?_,?_,?_,?_⟩,fun k h=>.inl h⟩
    ·exact ((((((HKO.out.setCell (p:=⟨R,0,none⟩) (.inl ⟨oA,Nat.le_refl _⟩) _).setCell (p:=⟨R,1,none⟩) (.inl ⟨oA,Nat.le_refl _⟩) _).setCell (p:=⟨R,2,none⟩) (.inl ⟨oA,Nat.le_refl _⟩) _).setCell (p:=⟨R,3,none⟩) (.inl ⟨oA,Nat.le_refl _⟩) _).setCell (p:=⟨R,4,none⟩) (.inl ⟨oA,Nat.le_refl _⟩) _).setCell (p:=⟨R+1,0,none⟩) (.inl ⟨oB,Nat.le_succ _⟩) _).setCell (p:=⟨R+1+1,0,none⟩) (.inl ⟨oC,Nat.le_succ_of_le (Nat.le_succ _)⟩) _
    ·exact (a5.far (p:=⟨R+1,0,none⟩) (nR1 R).symm _).far (p:=⟨R+1+1,0,none⟩) (nR2 R).symm _
    ·exact b1'.far (p:=⟨R+1+1,0,none⟩) (nR21 R).symm _
    ·exact b2.set_ 0 _
    ·exact ((((((HB1.out.setCell (p:=⟨R,0,none⟩) (Nat.le_refl _) _).setCell (p:=⟨R,1,none⟩) (Nat.le_refl _) _).setCell (p:=⟨R,2,none⟩) (Nat.le_refl _) _).setCell (p:=⟨R,3,none⟩) (Nat.le_refl _) _).setCell (p:=⟨R,4,none⟩) (Nat.le_refl _) _).setCell (p:=⟨R+1,0,none⟩) (Nat.le_succ _) _).setCell (p:=⟨R+1+1,0,none⟩) (Nat.le_succ_of_le (Nat.le_succ _)) _
    ·intro rest;rw[List.map_append,List.append_assoc,foldW_run _ _ _ _ H9.out];show (if (stepW ⟨hd,t,names⟩ (lnX (n,ws)).2).2≠0 then _ else _)=_;rw[HR2.out,if_pos HC0.out];rfl)
   clear hk hz hkO hc0 k1 k2 k5
   gi_wp2
   exact HFIN.out
 case done=>
  clear HSQ HI d0 hmm;rintro D xs O W hD hS ⟨OP,st,hA,hc,vv,rv,vs,rs,DD,h1,h2,h3,h4,h5,h6,h7,h8,h9⟩ hDO hK;have hfold:=foldW_run (xs.map lnX) [] PSt.zero _ h9;rw[List.append_nil] at hfold;have hSx:xs.map lnX=linesX (lines11 s.data.toList) 0:=hS;rw[hSx] at hfold;have hres:res=if st.head < 3 then (zero11,0,4) else (st.t,0,0):=HPF.out.trans hfold
  clear hfold hSx hS;have hDR:R+1+1+1+1+1+1+1≤D:=by have:=HZ7.out;omega
  have hd0:D≠R:=by omega
  have hd1:D≠R+1:=by omega
  have hd2:D≠R+1+1:=by omega
  have c5:=h7.cell 0;have c46:W.cell? ⟨R+1+1+1+1,6,none⟩=some (.int .i64 (st.head:Int)):=h3.blk.cell 6;by_cases h3h:st.head < 3
  ·have dl:decide ((st.head:Int) < 3)=true:=decide_eq_true (by omega);rw[if_pos h3h] at hres;subst hres;clear h3h;have c00:W.cell? ⟨R,0,none⟩=some (.int .i64 0):=h4.cell 0;have f00:=h4.frozen 0;have a1:Blk (W.setCell ⟨R,0,none⟩ (.int .i64 0)) R 26 #[.int .i64 0,.int .i64 0,.slice none 0 0,.slice none 0 0,.slice none 0 0]:=h4.set_ 0 (.int .i64 0);have c01:(W.setCell ⟨R,0,none⟩ (.int .i64 0)).cell? ⟨R,1,none⟩=some (.int .i64 0):=a1.cell 1;have f01:=a1.frozen 1;have a2:Blk ((W.setCell ⟨R,0,none⟩ (.int .i64 0)).setCell ⟨R,1,none⟩ (.int .i64 0)) R 26 #[.int .i64 0,.int .i64 0,.slice none 0 0,.slice none 0 0,.slice none 0 0]:=a1.set_ 1 (.int .i64 0);have c02:((W.setCell ⟨R,0,none⟩ (.int .i64 0)).setCell ⟨R,1,none⟩ (.int .i64 0)).cell? ⟨R,2,none⟩=some (.slice none 0 0):=a2.cell 2;have f02:=a2.frozen 2;have a3:Blk (((W.setCell ⟨R,0,none⟩ (.int .i64 0)).setCell ⟨R,1,none⟩ (.int .i64 0)).setCell ⟨R,2,none⟩ (.slice none 0 0)) R 26 #[.int .i64 0,.int .i64 0,.slice none 0 0,.slice none 0 0,.slice none 0 0]:=a2.set_ 2 (.slice none 0 0);have c03:(((W.setCell ⟨R,0,none⟩ (.int .i64 0)).setCell ⟨R,1,none⟩ (.int .i64 0)).setCell ⟨R,2,none⟩ (.slice none 0 0)).cell? ⟨R,3,none⟩=some (.slice none 0 0):=a3.cell 3;have f03:=a3.frozen 3;have a4:Blk ((((W.setCell ⟨R,0,none⟩ (.int .i64 0)).setCell ⟨R,1,none⟩ (.int .i64 0)).setCell ⟨R,2,none⟩ (.slice none 0 0)).setCell ⟨R,3,none⟩ (.slice none 0 0)) R 26 #[.int .i64 0,.int .i64 0,.slice none 0 0,.slice none 0 0,.slice none 0 0]:=a3.set_ 3 (.slice none 0 0);have c04:((((W.setCell ⟨R,0,none⟩ (.int .i64 0)).setCell ⟨R,1,none⟩ (.int .i64 0)).setCell ⟨R,2,none⟩ (.slice none 0 0)).setCell ⟨R,3,none⟩ (.slice none 0 0)).cell? ⟨R,4,none⟩=some (.slice none 0 0):=a4.cell 4;have f04:=a4.frozen 4;have a5:Blk (((((W.setCell ⟨R,0,none⟩ (.int .i64 0)).setCell ⟨R,1,none⟩ (.int .i64 0)).setCell ⟨R,2,none⟩ (.slice none 0 0)).setCell ⟨R,3,none⟩ (.slice none 0 0)).setCell ⟨R,4,none⟩ (.slice none 0 0)) R 26 #[.int .i64 0,.int .i64 0,.slice none 0 0,.slice none 0 0,.slice none 0 0]:=a4.set_ 4 (.slice none 0 0);have b1:Blk (((((W.setCell ⟨R,0,none⟩ (.int .i64 0)).setCell ⟨R,1,none⟩ (.int .i64 0)).setCell ⟨R,2,none⟩ (.slice none 0 0)).setCell ⟨R,3,none⟩ (.slice none 0 0)).setCell ⟨R,4,none⟩ (.slice none 0 0)) (R+1) 3 #[.int .i64 0]:=(((((h5.far (p:=⟨R,0,none⟩) (nR1 R) _).far (p:=⟨R,1,none⟩) (nR1 R) _).far (p:=⟨R,2,none⟩) (nR1 R) _).far (p:=⟨R,3,none⟩) (nR1 R) _).far (p:=⟨R,4,none⟩) (nR1 R) _)
   have c10:=b1.cell 0;have f10:=b1.frozen 0;have b1':=b1.set_ 0 (.int .i64 0);have b2:Blk ((((((W.setCell ⟨R,0,none⟩ (.int .i64 0)).setCell ⟨R,1,none⟩ (.int .i64 0)).setCell ⟨R,2,none⟩ (.slice none 0 0)).setCell ⟨R,3,none⟩ (.slice none 0 0)).setCell ⟨R,4,none⟩ (.slice none 0 0)).setCell ⟨R+1,0,none⟩ (.int .i64 0)) (R+1+1) 33 #[.int .i64 0]:=(((((h6.far (p:=⟨R,0,none⟩) (nR2 R) _).far (p:=⟨R,1,none⟩) (nR2 R) _).far (p:=⟨R,2,none⟩) (nR2 R) _).far (p:=⟨R,3,none⟩) (nR2 R) _).far (p:=⟨R,4,none⟩) (nR2 R) _).far (p:=⟨R+1,0,none⟩) (nR21 R) _;have c20:=b2.cell 0;have f20:=b2.frozen 0;have hkk:Kept (fun k=>k=R∨k=R+1∨k=R+1+1∨k=D) W ((((((((W.setCell ⟨R,0,none⟩ (.int .i64 0)).setCell ⟨R,1,none⟩ (.int .i64 0)).setCell ⟨R,2,none⟩ (.slice none 0 0)).setCell ⟨R,3,none⟩ (.slice none 0 0)).setCell ⟨R,4,none⟩ (.slice none 0 0)).setCell ⟨R+1,0,none⟩ (.int .i64 0)).setCell ⟨R+1+1,0,none⟩ (.int .i64 4)).putObj D (.deferred none)):=
    ((((((((Kept.refl _ W).setCell (p:=⟨R,0,none⟩) (.inl (.inl rfl)) _).setCell (p:=⟨R,1,none⟩) (.inl (.inl rfl)) _).setCell (p:=⟨R,2,none⟩) (.inl (.inl rfl)) _).setCell (p:=⟨R,3,none⟩) (.inl (.inl rfl)) _).setCell (p:=⟨R,4,none⟩) (.inl (.inl rfl)) _).setCell (p:=⟨R+1,0,none⟩) (.inl (.inr (.inl rfl))) _).setCell (p:=⟨R+1+1,0,none⟩) (.inl (.inr (.inr (.inl rfl)))) _).putObjO (.inl (.inr (.inr (.inr rfl)))) _
   have hK7:(((((((W.setCell ⟨R,0,none⟩ (.int .i64 0)).setCell ⟨R,1,none⟩ (.int .i64 0)).setCell ⟨R,2,none⟩ (.slice none 0 0)).setCell ⟨R,3,none⟩ (.slice none 0 0)).setCell ⟨R,4,none⟩ (.slice none 0 0)).setCell ⟨R+1,0,none⟩ (.int .i64 0)).setCell ⟨R+1+1,0,none⟩ (.int .i64 4)).heap[D]?=some (.deferred (some [])):=((Below.heap_setCell _ ⟨R+1+1,0,none⟩ _ D hd2).trans ((Below.heap_setCell _ ⟨R+1,0,none⟩ _ D hd1).trans ((Below.heap_setCell _ ⟨R,4,none⟩ _ D hd0).trans ((Below.heap_setCell _ ⟨R,3,none⟩ _ D hd0).trans ((Below.heap_setCell _ ⟨R,2,none⟩ _ D hd0).trans ((Below.heap_setCell _ ⟨R,1,none⟩ _ D hd0).trans ((Below.heap_setCell _ ⟨R,0,none⟩ _ D hd0).trans hK)))))))
   have hBf:Below R w ((((((((W.setCell ⟨R,0,none⟩ (.int .i64 0)).setCell ⟨R,1,none⟩ (.int .i64 0)).setCell ⟨R,2,none⟩ (.slice none 0 0)).setCell ⟨R,3,none⟩ (.slice none 0 0)).setCell ⟨R,4,none⟩ (.slice none 0 0)).setCell ⟨R+1,0,none⟩ (.int .i64 0)).setCell ⟨R+1+1,0,none⟩ (.int .i64 4)).putObj D (.deferred none)):=below_kept h8 (by rw[HR.out];exact h8.size) hkk (fun k hk h=>by rcases h with h | h | h | h <;> omega);have e0:=blk_put11 (((a5.far (p:=⟨R+1,0,none⟩) (nR1 R).symm (.int .i64 0))).far (p:=⟨R+1+1,0,none⟩) (nR2 R).symm (.int .i64 4)) hd0 (.deferred none);have e1:=(blk_put11 (b1'.far (p:=⟨R+1+1,0,none⟩) (nR21 R).symm (.int .i64 4)) hd1 (.deferred none)).cell 0;have e2:=(blk_put11 (b2.set_ 0 (.int .i64 4)) hd2 (.deferred none)).cell 0;have HF:Hid (RetTbl (zero11,0,4) w (.returned (.tuple #[.agg zeroTab,.int .i64 0,.int .i64 4])) ((((((((W.setCell ⟨R,0,none⟩ (.int .i64 0)).setCell ⟨R,1,none⟩ (.int .i64 0)).setCell ⟨R,2,none⟩ (.slice none 0 0)).setCell ⟨R,3,none⟩ (.slice none 0 0)).setCell ⟨R,4,none⟩ (.slice none 0 0)).setCell ⟨R+1,0,none⟩ (.int .i64 0)).setCell ⟨R+1+1,0,none⟩ (.int .i64 4)).putObj D (.deferred none))):=hid ⟨none,0,none,0,none,0,⟨0,0,[],[],[]⟩,rfl,⟨Pts.nil,Vrs.nil,Rws.nil⟩,rfl,by rw[← HR.out];exact hBf⟩;have HE:=hid (And.intro e0 (And.intro e1 e2));have HK7:=hid hK7;clear hkk hK7 hBf e0 e1 e2 b1 b2 b1' a1 a2 a3 a4 a5 h1 h2 h3 h4 h5 h6 h7 h8 h9 hK hDR hd0 hd1 hd2 hDO
   gi_wp2
   refine⟨by simp,.inl ⟨_,_,rfl,run_takeDeferred HK7.out,?_⟩⟩;refine⟨_,results_tee rfl _ rfl rfl rfl HE.out.1 Tryz.underlying26 rfl Tryz.sizeTab Tryz.underlying3 rfl Tryz.underlying33 rfl HE.out.2.1 HE.out.2.2,?_⟩;exact HF.out
  ·have dl:decide ((st.head:Int) < 3)=false:=decide_eq_false (by omega);rw[if_neg h3h] at hres;subst hres;clear h3h;obtain⟨vA,vc,rfl,-,-⟩:=h3.vars.vrs;obtain⟨rA,rc,rfl,-⟩:=h3.rows.form;have cg0:W.cell? ⟨R+1+1+1+1,0,none⟩=some (.int .i64 st.t.st):=h3.blk.cell 0;have cg1:W.cell? ⟨R+1+1+1+1,1,none⟩=some (.int .i64 st.t.sym):=h3.blk.cell 1;have cg2:W.cell? ⟨R+1+1+1+1,2,none⟩=some (.slice hA st.t.hood.length hc):=h3.blk.cell 2;have cg3:W.cell? ⟨R+1+1+1+1,3,none⟩=some (.slice vA vs.length vc):=h3.blk.cell 3;have cg4:W.cell? ⟨R+1+1+1+1,4,none⟩=some (.slice rA rs.length rc):=h3.blk.cell 4;have c00:W.cell? ⟨R,0,none⟩=some (.int .i64 0):=h4.cell 0;have f00:=h4.frozen 0;have a1:Blk (W.setCell ⟨R,0,none⟩ (.int .i64 st.t.st)) R 26 #[.int .i64 st.t.st,.int .i64 0,.slice none 0 0,.slice none 0 0,.slice none 0 0]:=h4.set_ 0 (.int .i64 st.t.st);have c01:(W.setCell ⟨R,0,none⟩ (.int .i64 st.t.st)).cell? ⟨R,1,none⟩=some (.int .i64 0):=a1.cell 1;have f01:=a1.frozen 1;have a2:Blk ((W.setCell ⟨R,0,none⟩ (.int .i64 st.t.st)).setCell ⟨R,1,none⟩ (.int .i64 st.t.sym)) R 26 #[.int .i64 st.t.st,.int .i64 st.t.sym,.slice none 0 0,.slice none 0 0,.slice none 0 0]:=a1.set_ 1 (.int .i64 st.t.sym);have c02:((W.setCell ⟨R,0,none⟩ (.int .i64 st.t.st)).setCell ⟨R,1,none⟩ (.int .i64 st.t.sym)).cell? ⟨R,2,none⟩=some (.slice none 0 0):=a2.cell 2;have f02:=a2.frozen 2;have a3:Blk (((W.setCell ⟨R,0,none⟩ (.int .i64 st.t.st)).setCell ⟨R,1,none⟩ (.int .i64 st.t.sym)).setCell ⟨R,2,none⟩ (.slice hA st.t.hood.length hc)) R 26 #[.int .i64 st.t.st,.int .i64 st.t.sym,.slice hA st.t.hood.length hc,.slice none 0 0,.slice none 0 0]:=a2.set_ 2 (.slice hA st.t.hood.length hc);have c03:(((W.setCell ⟨R,0,none⟩ (.int .i64 st.t.st)).setCell ⟨R,1,none⟩ (.int .i64 st.t.sym)).setCell ⟨R,2,none⟩ (.slice hA st.t.hood.length hc)).cell? ⟨R,3,none⟩=some (.slice none 0 0):=a3.cell 3;have f03:=a3.frozen 3;have a4:Blk ((((W.setCell ⟨R,0,none⟩ (.int .i64 st.t.st)).setCell ⟨R,1,none⟩ (.int .i64 st.t.sym)).setCell ⟨R,2,none⟩ (.slice hA st.t.hood.length hc)).setCell ⟨R,3,none⟩ (.slice vA vs.length vc)) R 26 #[.int .i64 st.t.st,.int .i64 st.t.sym,.slice hA st.t.hood.length hc,.slice vA vs.length vc,.slice none 0 0]:=a3.set_ 3 (.slice vA vs.length vc);have c04:((((W.setCell ⟨R,0,none⟩ (.int .i64 st.t.st)).setCell ⟨R,1,none⟩ (.int .i64 st.t.sym)).setCell ⟨R,2,none⟩ (.slice hA st.t.hood.length hc)).setCell ⟨R,3,none⟩ (.slice vA vs.length vc)).cell? ⟨R,4,none⟩=some (.slice none 0 0):=a4.cell 4;have f04:=a4.frozen 4;have a5:Blk (((((W.setCell ⟨R,0,none⟩ (.int .i64 st.t.st)).setCell ⟨R,1,none⟩ (.int .i64 st.t.sym)).setCell ⟨R,2,none⟩ (.slice hA st.t.hood.length hc)).setCell ⟨R,3,none⟩ (.slice vA vs.length vc)).setCell ⟨R,4,none⟩ (.slice rA rs.length rc)) R 26 #[.int .i64 st.t.st,.int .i64 st.t.sym,.slice hA st.t.hood.length hc,.slice vA vs.length vc,.slice rA rs.length rc]:=a4.set_ 4 (.slice rA rs.length rc);have b1:Blk (((((W.setCell ⟨R,0,none⟩ (.int .i64 st.t.st)).setCell ⟨R,1,none⟩ (.int .i64 st.t.sym)).setCell ⟨R,2,none⟩ (.slice hA st.t.hood.length hc)).setCell ⟨R,3,none⟩ (.slice vA vs.length vc)).setCell ⟨R,4,none⟩ (.slice rA rs.length rc)) (R+1) 3 #[.int .i64 0]:=(((((h5.far (p:=⟨R,0,none⟩) (nR1 R) _).far (p:=⟨R,1,none⟩) (nR1 R) _).far (p:=⟨R,2,none⟩) (nR1 R) _).far (p:=⟨R,3,none⟩) (nR1 R) _).far (p:=⟨R,4,none⟩) (nR1 R) _)
   have c10:=b1.cell 0;have f10:=b1.frozen 0;have b1':=b1.set_ 0 (.int .i64 0);have b2:Blk ((((((W.setCell ⟨R,0,none⟩ (.int .i64 st.t.st)).setCell ⟨R,1,none⟩ (.int .i64 st.t.sym)).setCell ⟨R,2,none⟩ (.slice hA st.t.hood.length hc)).setCell ⟨R,3,none⟩ (.slice vA vs.length vc)).setCell ⟨R,4,none⟩ (.slice rA rs.length rc)).setCell ⟨R+1,0,none⟩ (.int .i64 0)) (R+1+1) 33 #[.int .i64 0]:=(((((h6.far (p:=⟨R,0,none⟩) (nR2 R) _).far (p:=⟨R,1,none⟩) (nR2 R) _).far (p:=⟨R,2,none⟩) (nR2 R) _).far (p:=⟨R,3,none⟩) (nR2 R) _).far (p:=⟨R,4,none⟩) (nR2 R) _).far (p:=⟨R+1,0,none⟩) (nR21 R) _;have c20:=b2.cell 0;have f20:=b2.frozen 0;have hkk:Kept (fun k=>k=R∨k=R+1∨k=R+1+1∨k=D) W ((((((((W.setCell ⟨R,0,none⟩ (.int .i64 st.t.st)).setCell ⟨R,1,none⟩ (.int .i64 st.t.sym)).setCell ⟨R,2,none⟩ (.slice hA st.t.hood.length hc)).setCell ⟨R,3,none⟩ (.slice vA vs.length vc)).setCell ⟨R,4,none⟩ (.slice rA rs.length rc)).setCell ⟨R+1,0,none⟩ (.int .i64 0)).setCell ⟨R+1+1,0,none⟩ (.int .i64 0)).putObj D (.deferred none)):=
    ((((((((Kept.refl _ W).setCell (p:=⟨R,0,none⟩) (.inl (.inl rfl)) _).setCell (p:=⟨R,1,none⟩) (.inl (.inl rfl)) _).setCell (p:=⟨R,2,none⟩) (.inl (.inl rfl)) _).setCell (p:=⟨R,3,none⟩) (.inl (.inl rfl)) _).setCell (p:=⟨R,4,none⟩) (.inl (.inl rfl)) _).setCell (p:=⟨R+1,0,none⟩) (.inl (.inr (.inl rfl))) _).setCell (p:=⟨R+1+1,0,none⟩) (.inl (.inr (.inr (.inl rfl)))) _).putObjO (.inl (.inr (.inr (.inr rfl)))) _
   have hK7:(((((((W.setCell ⟨R,0,none⟩ (.int .i64 st.t.st)).setCell ⟨R,1,none⟩ (.int .i64 st.t.sym)).setCell ⟨R,2,none⟩ (.slice hA st.t.hood.length hc)).setCell ⟨R,3,none⟩ (.slice vA vs.length vc)).setCell ⟨R,4,none⟩ (.slice rA rs.length rc)).setCell ⟨R+1,0,none⟩ (.int .i64 0)).setCell ⟨R+1+1,0,none⟩ (.int .i64 0)).heap[D]?=some (.deferred (some [])):=((Below.heap_setCell _ ⟨R+1+1,0,none⟩ _ D hd2).trans ((Below.heap_setCell _ ⟨R+1,0,none⟩ _ D hd1).trans ((Below.heap_setCell _ ⟨R,4,none⟩ _ D hd0).trans ((Below.heap_setCell _ ⟨R,3,none⟩ _ D hd0).trans ((Below.heap_setCell _ ⟨R,2,none⟩ _ D hd0).trans ((Below.heap_setCell _ ⟨R,1,none⟩ _ D hd0).trans ((Below.heap_setCell _ ⟨R,0,none⟩ _ D hd0).trans hK)))))))
   have hBf:Below R w ((((((((W.setCell ⟨R,0,none⟩ (.int .i64 st.t.st)).setCell ⟨R,1,none⟩ (.int .i64 st.t.sym)).setCell ⟨R,2,none⟩ (.slice hA st.t.hood.length hc)).setCell ⟨R,3,none⟩ (.slice vA vs.length vc)).setCell ⟨R,4,none⟩ (.slice rA rs.length rc)).setCell ⟨R+1,0,none⟩ (.int .i64 0)).setCell ⟨R+1+1,0,none⟩ (.int .i64 0)).putObj D (.deferred none)):=below_kept h8 (by rw[HR.out];exact h8.size) hkk (fun k hk h=>by rcases h with h | h | h | h <;> omega);have e0:=blk_put11 (((a5.far (p:=⟨R+1,0,none⟩) (nR1 R).symm (.int .i64 0))).far (p:=⟨R+1+1,0,none⟩) (nR2 R).symm (.int .i64 0)) hd0 (.deferred none);have e1:=(blk_put11 (b1'.far (p:=⟨R+1+1,0,none⟩) (nR21 R).symm (.int .i64 0)) hd1 (.deferred none)).cell 0;have e2:=(blk_put11 (b2.set_ 0 (.int .i64 0)) hd2 (.deferred none)).cell 0;have hp':=h3.kept (hkk.mono (S':=fun k=>¬ OP k) (fun k _ h h'=>by
    rcases h with h | h | h | h
    ·have:=(h2 k h').1;omega
    ·have:=(h2 k h').1;omega
    ·have:=(h2 k h').1;omega
    ·rw[h] at h';exact hDO ((h1 D).2 (.inr (.inr h')))))
   have HF:Hid (RetTbl (st.t,0,0) w (.returned (.tuple #[.agg #[.int .i64 st.t.st,.int .i64 st.t.sym,.slice hA st.t.hood.length hc,.slice vA vs.length vc,.slice rA rs.length rc],.int .i64 0,.int .i64 0])) ((((((((W.setCell ⟨R,0,none⟩ (.int .i64 st.t.st)).setCell ⟨R,1,none⟩ (.int .i64 st.t.sym)).setCell ⟨R,2,none⟩ (.slice hA st.t.hood.length hc)).setCell ⟨R,3,none⟩ (.slice vA vs.length vc)).setCell ⟨R,4,none⟩ (.slice rA rs.length rc)).setCell ⟨R+1,0,none⟩ (.int .i64 0)).setCell ⟨R+1+1,0,none⟩ (.int .i64 0)).putObj D (.deferred none))):=hid (by
    obtain⟨vA',vc',ev,hvr,-⟩:=hp'.vars.vrs;injection ev with ev1 ev2 ev3
    subst ev1;refine⟨hA,hc,vA,vc,rA,rc,⟨st.t.st,st.t.sym,st.t.hood,vs,rs⟩,rfl,⟨hp'.hood,hvr,hp'.rows.rws (Below.refl _ _) hp'.rins⟩,?_,by rw[← HR.out];exact hBf⟩;unfold TabH.tab;dsimp only;rw[hp'.evs,hp'.ers])
   have HE:=hid (And.intro e0 (And.intro e1 e2));have HK7:=hid hK7;clear hkk hK7 hBf e0 e1 e2 b1 b2 b1' a1 a2 a3 a4 a5 h1 h2 h3 h4 h5 h6 h7 h8 h9 hK hDR hd0 hd1 hd2 hDO
   gi_wp2
   refine⟨by simp,.inl ⟨_,_,rfl,run_takeDeferred HK7.out,?_⟩⟩;refine⟨_,results_tee rfl _ rfl rfl rfl HE.out.1 Tryz.underlying26 rfl Tryz.sizeTab Tryz.underlying3 rfl Tryz.underlying33 rfl HE.out.2.1 HE.out.2.2,?_⟩;exact HF.out
 case stop=>
  clear HSQ HI d0 hmm;rintro D pre rest O W hD hS ⟨n,c,h1,h4,h5,h6,h8,h9⟩ hDO hK;have hSx:(pre ++ rest).map lnX=linesX (lines11 s.data.toList) 0:=hS;have hres:res=(zero11,n,c):=by
   rw[HPF.out,← hSx,List.map_append];exact h9 _
  subst hres;have hDR:R+1+1+1+1+1+1+1≤D:=by have:=HZ7.out;omega
  have hd0:D≠R:=by omega
  have hd1:D≠R+1:=by omega
  have hd2:D≠R+1+1:=by omega
  have e0:=blk_put11 h4 hd0 (.deferred none);have e1:=(blk_put11 h5 hd1 (.deferred none)).cell 0;have e2:=(blk_put11 h6 hd2 (.deferred none)).cell 0;have hBf:Below R w (W.putObj D (.deferred none)):=below_kept (S:=fun k=>k=D) h8 (by rw[HR.out];exact h8.size) ((Kept.refl (fun k=>k=D) W).putObjO (.inl rfl) _) (fun k hk h=>by omega);have HF:Hid (RetTbl (zero11,n,c) w (.returned (.tuple #[.agg zeroTab,.int .i64 n,.int .i64 c])) (W.putObj D (.deferred none))):=hid ⟨none,0,none,0,none,0,⟨0,0,[],[],[]⟩,rfl,⟨Pts.nil,Vrs.nil,Rws.nil⟩,rfl,by rw[← HR.out];exact hBf⟩;have HE:=hid (And.intro e0 (And.intro e1 e2));have HK7:=hid hK;clear e0 e1 e2 hBf hSx hS h1 h4 h5 h6 h8 h9 hDR hd0 hd1 hd2 hDO hK
  gi_wp2
  refine⟨by simp,.inl ⟨_,_,rfl,run_takeDeferred HK7.out,?_⟩⟩;refine⟨_,results_tee rfl _ rfl rfl rfl HE.out.1 Tryz.underlying26 rfl Tryz.sizeTab Tryz.underlying3 rfl Tryz.underlying33 rfl HE.out.2.1 HE.out.2.2,?_⟩;exact HF.out
end Go.Proofs.YtcmbdhopmncmnaaGreatDoor
namespace Go.Proofs.YtcmbdhopmncmnaaGreatDoor
open Lib(hid)
open Go.RowKit
set_option maxRecDepth 100000
set_option linter.unusedVariables false
set_option linter.unusedSimpArgs false
set_option maxHeartbeats 400000 in
theorem equalInts (A B:Option Addr)(xs ys:List Int)(c d:Nat)(w:World)(ha:Ints w A xs)(hb:Ints w B ys) :
  Calls Tryz.prog 35 #[.slice A xs.length c,.slice B ys.length d] w fun e w'=>e=.returned (.bool (decide (xs=ys)))∧Qt w w':=by
 have hn:=ha.le;have hm:=hb.le;by_cases hl:xs.length=ys.length
 ·have hd:((xs.length:Int) != ys.length)=false:=by simp[hl]
  have HL:=hid hl;clear hl;go_enter Tryz.func35,Tryz.ntmps35;go_wp2;go_loopw [13] (fun i wr=>∃ k q:Nat,k≤xs.length∧i=.int .i64 k∧wr=w.drewN q∧Hid (xs.take k=ys.take k)) (fun i _=>xs.length - (intOf i).toNat)
  case atStart=>exact⟨0,0,Nat.zero_le _,rfl,rfl,hid rfl⟩
  case round=>
   obtain⟨k,q,hk,rfl,rfl,HT⟩:=hrel;by_cases hlt:k < xs.length
   ·have hlt2:k < ys.length:=by have:=HL.out;omega
    obtain⟨b1,o1,rfl,-,hc⟩:=ha.at_ hlt;obtain⟨b2,o2,rfl,-,hc2⟩:=hb.at_ hlt2;go_wp2;go_quiet (fail)
    go_wp2
    ·have hne:¬ xs[k]=ys[k]:=by simpa using ‹(xs[k] != ys[k])=true›
     go_ret;refine⟨ret_bool (decide_eq_false ?_).symm,(Qt.drewN _ _).step _⟩;rintro rfl;exact hne rfl
    ·have he:xs[k]=ys[k]:=by simpa using ‹(xs[k] != ys[k])=false›
     go_roundw
     case rel=>exact⟨k+1,_,by omega,by go_num,rfl,hid (take_eq_snoc HT.out hlt hlt2 he)⟩
     case measure=>simp[intOf];omega
   ·have hk':k=xs.length:=by omega
    have hfin:xs=ys:=by
     have:=HT.out;rwa [hk',List.take_of_length_le (Nat.le_refl _),List.take_of_length_le (by rw[HL.out];exact Nat.le_refl _)] at this
    clear hk';have HF:=hid hfin;clear hfin;go_wp2;go_ret;exact⟨ret_bool (decide_eq_true HF.out).symm,Qt.drewN _ _⟩
 ·have hd:((xs.length:Int) != ys.length)=true:=by simp;omega
  have hf:¬ xs=ys:=by
   rintro rfl;exact hl rfl
  have HF:=hid hf;clear hl hf;go_enter Tryz.func35,Tryz.ntmps35;go_wp2;go_ret;exact⟨ret_bool (decide_eq_false HF.out).symm,Qt.refl _⟩
set_option maxHeartbeats 400000 in
theorem equalPts (A B:Option Addr)(xs ys:List (Int × Int))(c d:Nat)(w:World)(ha:Pts w A xs)(hb:Pts w B ys) :
  Calls Tryz.prog 36 #[.slice A xs.length c,.slice B ys.length d] w fun e w'=>e=.returned (.bool (decide (xs=ys)))∧Qt w w':=by
 have hn:=ha.le;have hm:=hb.le;by_cases hl:xs.length=ys.length
 ·have hd:((xs.length:Int) != ys.length)=false:=by simp[hl]
  have HL:=hid hl;clear hl;go_enter Tryz.func36,Tryz.ntmps36;go_wp2;go_loopw [13] (fun i wr=>∃ k q:Nat,k≤xs.length∧i=.int .i64 k∧wr=w.drewN q∧Hid (xs.take k=ys.take k)) (fun i _=>xs.length - (intOf i).toNat)
  case atStart=>exact⟨0,0,Nat.zero_le _,rfl,rfl,hid rfl⟩
  case round=>
   obtain⟨k,q,hk,rfl,rfl,HT⟩:=hrel;by_cases hlt:k < xs.length
   ·have hlt2:k < ys.length:=by have:=HL.out;omega
    obtain⟨b1,o1,rfl,-,hc,hc'⟩:=ha.at_ hlt;obtain⟨b2,o2,rfl,-,hc2,hc2'⟩:=hb.at_ hlt2;go_wp2;have hst:=Tryz.stood_pt;have heg:=Tryz.guard_pt;have hnq:=neq_pt;go_quiet (fail)
    go_wp2
    ·have hne:¬ xs[k]=ys[k]:=ptNe_true ‹_›;go_ret;refine⟨ret_bool (decide_eq_false ?_).symm,(Qt.drewN _ _).step _⟩;rintro rfl;exact hne rfl
    ·have he:xs[k]=ys[k]:=ptNe_false ‹_›;go_roundw
     case rel=>exact⟨k+1,_,by omega,by go_num,rfl,hid (take_eq_snoc HT.out hlt hlt2 he)⟩
     case measure=>simp[intOf];omega
   ·have hk':k=xs.length:=by omega
    have hfin:xs=ys:=by
     have:=HT.out;rwa [hk',List.take_of_length_le (Nat.le_refl _),List.take_of_length_le (by rw[HL.out];exact Nat.le_refl _)] at this
    clear hk';have HF:=hid hfin;clear hfin;go_wp2;go_ret;exact⟨ret_bool (decide_eq_true HF.out).symm,Qt.drewN _ _⟩
 ·have hd:((xs.length:Int) != ys.length)=true:=by simp;omega
  have hf:¬ xs=ys:=by
   rintro rfl;exact hl rfl
  have HF:=hid hf;clear hl hf;go_enter Tryz.func36,Tryz.ntmps36;go_wp2;go_ret;exact⟨ret_bool (decide_eq_false HF.out).symm,Qt.refl _⟩
set_option maxHeartbeats 400000 in
theorem hsame_any (A B:Option Addr)(xs ys:List (Int × Int))(c d:Nat)(w:World)(ha:Pts w A xs)(hb:Pts w B ys) :
  Calls Tryz.prog 54 #[.slice A xs.length c,.slice B ys.length d] w fun e w'=>e=.returned (.bool (decide (xs=ys)))∧Qt w w':=by
 have HE:=hid (equalPts A B xs ys c d w ha hb);go_enter Tryz.func54,Tryz.ntmps54;go_wp2_with fail;refine HE.out.mono ?_;rintro e w' ⟨rfl,hq⟩;clear HE;go_wp2;go_ret;exact⟨rfl,hq⟩
theorem map_take_snoc {α β:Type}{f:α→β}{hs ks:List α}{k:Nat}(h:(hs.take k).map f=(ks.take k).map f)(h1:k < hs.length)(h2:k < ks.length)(h3:f hs[k]=f ks[k]):(hs.take (k+1)).map f=(ks.take (k+1)).map f:=by
 rw[List.take_succ_eq_append_getElem h1,List.take_succ_eq_append_getElem h2,List.map_append,List.map_append,h,List.map_singleton,List.map_singleton,h3]
theorem map_at {α β:Type}{f:α→β}{hs ks:List α}{k:Nat}(h:hs.map f=ks.map f)(h1:k < hs.length)(h2:k < ks.length):f hs[k]=f ks[k]:=by
 have:=congrArg (fun l=>l[k]?) h;simp only[List.getElem?_map,List.getElem?_eq_getElem h1,List.getElem?_eq_getElem h2,Option.map_some,Option.some.injEq] at this;exact this
theorem map_full {α β:Type}{f:α→β}{hs ks:List α}(h:(hs.take hs.length).map f=(ks.take hs.length).map f)(hl:hs.length=ks.length):hs.map f=ks.map f:=by
 rw[List.take_length,hl,List.take_length] at h;exact h
theorem map_len_ne {α β:Type}{f:α→β}{hs ks:List α}(h:hs.length≠ks.length):hs.map f≠ks.map f:=fun e=>h (by have:=congrArg List.length e;rwa [List.length_map,List.length_map] at this)
theorem meas11 {n k:Nat}(h:k < n):n - (intOf (.int .i64 ((k:Int)+1))).toNat < n - (intOf (.int .i64 (k:Int))).toNat:=by
 simp[intOf];omega
set_option maxHeartbeats 4000000 in
theorem eqfV (A B:Option Addr)(hs ks:List Vh)(c d:Nat)(w:World)(ha:Vrs w A hs)(hb:Vrs w B ks) :
  Calls Tryz.prog 37 #[.slice A hs.length c,.slice B ks.length d,.func (.func 35) #[] #[]] w fun e w'=>e=.returned (.bool (decide (hs.map Vh.zs=ks.map Vh.zs)))∧Below w.heap.size w w':=by
 have hn:=ha.le;have hm:=hb.le;by_cases hl:hs.length=ks.length
 ·have hd:((hs.length:Int) != ks.length)=false:=by simp[hl]
  have HL:=hid hl;have HA:=hid ha;have HB:=hid hb;clear hl ha hb;go_enter Tryz.func37,Tryz.ntmps37;go_wp2;go_loopw [17] (fun i wr=>∃ k:Nat,k≤hs.length∧i=.int .i64 k∧Hid (Below w.heap.size w wr)∧Hid ((hs.take k).map Vh.zs=(ks.take k).map Vh.zs)) (fun i _=>hs.length - (intOf i).toNat)
  case atStart=>exact⟨0,Nat.zero_le _,rfl,hid (Below.refl _ _),hid rfl⟩
  case round=>
   obtain⟨k,hk,rfl,HW,HT⟩:=hrel;by_cases hlt:k < hs.length
   ·have hlt2:k < ks.length:=by have:=HL.out;omega
    have hwk:wrap64 ((k:Int)+1)=(k:Int)+1:=by unfold wrap64;omega
    obtain⟨b1,o1,rfl,-,hc,hi1⟩:=(HA.out.ext HW.out).at_ hlt;obtain⟨b2,o2,rfl,-,hc2,hi2⟩:=(HB.out.ext HW.out).at_ hlt2;have hkb:k < ks.length:=hlt2;obtain⟨x,hx⟩:∃ x,x=hs[k]:=⟨_,rfl⟩
    obtain⟨y,hy⟩:∃ y,y=ks[k]:=⟨_,rfl⟩
    have HST:Hid (Vh.zs x=Vh.zs y→(hs.take (k+1)).map Vh.zs=(ks.take (k+1)).map Vh.zs):=hid (fun h=>map_take_snoc HT.out hlt hlt2 (by rw[← hx,← hy];exact h));have HNE:Hid (Vh.zs x≠Vh.zs y→hs.map Vh.zs≠ks.map Vh.zs):=hid (fun h e=>h (by rw[hx,hy];exact map_at e hlt hlt2));rw[← hx] at hc hi1;rw[← hy] at hc2 hi2;have HKL:=hid hlt;have hcall:=equalInts x.A y.A x.zs y.zs x.c y.c wr hi1 hi2;have HCALL:=hid hcall;clear hx hy hcall hi1 hi2;by_cases he:Vh.zs x=Vh.zs y
    ·rw[decide_eq_true he] at HCALL;have HT2:=hid (HST.out he);clear he;go_wp2_with (go_at_call 35;refine HCALL.out.mono ?_;rintro e w2 ⟨rfl,hq⟩;have HW2:=hid (HW.out.trans ((hq.below _).mono HW.out.size));clear hq;refine Hid.out ?_);refine hid ?_;go_wp2;go_roundw
     case rel=>exact⟨k+1,HKL.out,(by first | rfl | go_num),HW2,HT2⟩
     case measure=>exact meas11 HKL.out
    ·rw[decide_eq_false he] at HCALL;have HF:=hid (HNE.out he);clear he;go_wp2_with (go_at_call 35;refine HCALL.out.mono ?_;rintro e w2 ⟨rfl,hq⟩;have HW2:=hid (HW.out.trans ((hq.below _).mono HW.out.size));clear hq;refine Hid.out ?_);refine hid ?_;go_wp2;go_ret;exact⟨ret_bool (decide_eq_false HF.out).symm,HW2.out⟩
   ·obtain rfl:k=hs.length:=Nat.le_antisymm hk (Nat.le_of_not_lt hlt);have HF:=hid (map_full HT.out HL.out);clear hk;go_wp2;go_ret;exact⟨ret_bool (decide_eq_true HF.out).symm,HW.out⟩
 ·have hd:((hs.length:Int) != ks.length)=true:=by simp;omega
  have HF:Hid (hs.map Vh.zs≠ks.map Vh.zs):=hid (map_len_ne hl);clear hl;go_enter Tryz.func37,Tryz.ntmps37;go_wp2;go_ret;exact⟨ret_bool (decide_eq_false HF.out).symm,Below.refl _ _⟩
set_option maxHeartbeats 4000000 in
theorem rowsame_any (x y:Rh)(w:World)(ha:Ints w x.A x.zs)(hb:Ints w y.A y.zs) :
  Calls Tryz.prog 34 #[.agg #[.slice x.A x.zs.length x.c,.int .i64 x.out],.agg #[.slice y.A y.zs.length y.c,.int .i64 y.out]] w fun e w'=>e=.returned (.bool (decide (x.rw_=y.rw_)))∧Below w.heap.size w w':=by
 obtain⟨xA,xc,xs,xo⟩:=x;obtain⟨yA,yc,ys,yo⟩:=y;dsimp only at ha hb ⊢;unfold Rh.rw_;dsimp only;obtain⟨W2,hW2⟩:∃ W2,W2=(w.alloc (.cells #[.slice xA xs.length xc,.int .i64 xo] 48)).alloc (.cells #[.slice yA ys.length yc,.int .i64 yo] 48):=⟨_,rfl⟩
 have hb2:Below w.heap.size w W2:=by rw[hW2];exact (below_new _ _).alloc (by simp) _
 have e1:Blk W2 w.heap.size 48 #[.slice xA xs.length xc,.int .i64 xo]:=by rw[hW2];exact (Blk.new w _ _).alloc _
 have e2:Blk W2 (w.heap.size+1) 48 #[.slice yA ys.length yc,.int .i64 yo]:=by
  rw[hW2];have h:=Blk.new (w.alloc (.cells #[.slice xA xs.length xc,.int .i64 xo] 48)) 48 #[.slice yA ys.length yc,.int .i64 yo];rw[World.size_alloc] at h;exact h
 have HC:=hid (equalInts xA yA xs ys xc yc W2 (ha.ext hb2) (hb.ext hb2));have c1:=e1.cell_ 0 (.slice xA xs.length xc) rfl;have c2:=e1.cell_ 1 (.int .i64 xo) rfl;have c3:=e2.cell_ 0 (.slice yA ys.length yc) rfl;have c4:=e2.cell_ 1 (.int .i64 yo) rfl;have HB:=hid hb2;have HW:=hid hW2;clear e1 e2 hb2 hW2 ha hb;by_cases ho:xo=yo
 ·have d1:(xo == yo)=true:=beq_iff_eq.2 ho;have HR:Hid (decide ((xs,xo)=(ys,yo))=decide (xs=ys)):=hid (by rw[ho];simp);clear ho;go_enter Tryz.func34,Tryz.ntmps34;go_upto_region 1 with fail
  rw[← HW.out];go_wp2_with (go_at_call 35;refine HC.out.mono ?_;rintro e w2 ⟨rfl,hq⟩;have HW2:=hid (HB.out.trans ((hq.below _).mono HB.out.size));clear hq;refine Hid.out ?_);refine hid ?_;go_wp2;go_ret;exact⟨ret_bool HR.out.symm,HW2.out⟩
 ·have d1:(xo == yo)=false:=beq_eq_false_iff_ne.2 ho;have HR:Hid (decide ((xs,xo)=(ys,yo))=false):=hid (decide_eq_false (fun h=>ho (congrArg Prod.snd h)));clear ho;go_enter Tryz.func34,Tryz.ntmps34;go_upto_region 1 with fail
  rw[← HW.out];go_wp2;go_ret;exact⟨ret_bool HR.out.symm,HB.out⟩
set_option maxHeartbeats 4000000 in
theorem eqfR (A B:Option Addr)(hs ks:List Rh)(c d:Nat)(w:World)(ha:Rws w A hs)(hb:Rws w B ks) :
  Calls Tryz.prog 38 #[.slice A hs.length c,.slice B ks.length d,.func (.func 34) #[] #[]] w fun e w'=>e=.returned (.bool (decide (hs.map Rh.rw_=ks.map Rh.rw_)))∧Below w.heap.size w w':=by
 have hn:=ha.le;have hm:=hb.le;by_cases hl:hs.length=ks.length
 ·have hd:((hs.length:Int) != ks.length)=false:=by simp[hl]
  have HL:=hid hl;have HA:=hid ha;have HB:=hid hb;clear hl ha hb;go_enter Tryz.func38,Tryz.ntmps38;go_wp2;go_loopw [17] (fun i wr=>∃ k:Nat,k≤hs.length∧i=.int .i64 k∧Hid (Below w.heap.size w wr)∧Hid ((hs.take k).map Rh.rw_=(ks.take k).map Rh.rw_)) (fun i _=>hs.length - (intOf i).toNat)
  case atStart=>exact⟨0,Nat.zero_le _,rfl,hid (Below.refl _ _),hid rfl⟩
  case round=>
   obtain⟨k,hk,rfl,HW,HT⟩:=hrel;by_cases hlt:k < hs.length
   ·have hlt2:k < ks.length:=by have:=HL.out;omega
    have hwk:wrap64 ((k:Int)+1)=(k:Int)+1:=by unfold wrap64;omega
    obtain⟨b1,o1,rfl,-,hc,hc',hi1⟩:=(HA.out.ext HW.out).at_ hlt;obtain⟨b2,o2,rfl,-,hc2,hc2',hi2⟩:=(HB.out.ext HW.out).at_ hlt2;have hkb:k < ks.length:=hlt2;obtain⟨x,hx⟩:∃ x,x=hs[k]:=⟨_,rfl⟩
    obtain⟨y,hy⟩:∃ y,y=ks[k]:=⟨_,rfl⟩
    have HST:Hid (Rh.rw_ x=Rh.rw_ y→(hs.take (k+1)).map Rh.rw_=(ks.take (k+1)).map Rh.rw_):=hid (fun h=>map_take_snoc HT.out hlt hlt2 (by rw[← hx,← hy];exact h));have HNE:Hid (Rh.rw_ x≠Rh.rw_ y→hs.map Rh.rw_≠ks.map Rh.rw_):=hid (fun h e=>h (by rw[hx,hy];exact map_at e hlt hlt2));rw[← hx] at hc hc' hi1;rw[← hy] at hc2 hc2' hi2;have HKL:=hid hlt;obtain⟨W1,hW1⟩:∃ W1,W1=wr.alloc (.cells #[.slice x.A x.zs.length x.c,.int .i64 x.out] 48):=⟨_,rfl⟩
    obtain⟨W2,hW2⟩:∃ W2,W2=W1.alloc (.cells #[.slice y.A y.zs.length y.c,.int .i64 y.out] 48):=⟨_,rfl⟩
    have hb1:Below wr.heap.size wr W1:=by rw[hW1];exact below_new _ _
    have hb2:Below wr.heap.size wr W2:=by rw[hW2];exact hb1.alloc hb1.size _
    have e1:=Blk.new wr 48 #[.slice x.A x.zs.length x.c,.int .i64 x.out];rw[← hW1] at e1;have e2:=Blk.new W1 48 #[.slice y.A y.zs.length y.c,.int .i64 y.out];rw[← hW2] at e2
    replace e1:Blk W2 wr.heap.size 48 #[.slice x.A x.zs.length x.c,.int .i64 x.out]:=by rw[hW2];exact e1.alloc _
    have q1:=e1.cell_ 0 (.slice x.A x.zs.length x.c) rfl;have q2:=e1.cell_ 1 (.int .i64 x.out) rfl;have q3:=e2.cell_ 0 (.slice y.A y.zs.length y.c) rfl;have q4:=e2.cell_ 1 (.int .i64 y.out) rfl;have hc2b:=(hb1.cell (World.block_lt_of_cell? _ _ hc2)).trans hc2;have hc2b':=(hb1.cell (World.block_lt_of_cell? _ _ hc2')).trans hc2';have HW12:=hid (HW.out.trans (hb2.mono HW.out.size));have hcall:=rowsame_any x y W2 (hi1.ext hb2) (hi2.ext hb2);have HBL:=hid (And.intro hW1 hW2);clear e1 e2 hb1 hb2 hW1 hW2;have HCALL:=hid hcall;clear hx hy hcall hi1 hi2;by_cases he:Rh.rw_ x=Rh.rw_ y
    ·rw[decide_eq_true he] at HCALL;have HT2:=hid (HST.out he);clear he;go_upto_region 6 with fail
     rw[← HBL.out.1];go_upto_region 7 with fail
     rw[← HBL.out.2];go_wp2_with (go_at_call 34;refine HCALL.out.mono ?_;rintro e w2 ⟨rfl,hq⟩;have HW2:=hid (HW12.out.trans (hq.mono HW12.out.size));clear hq;refine Hid.out ?_);refine hid ?_;go_wp2;go_roundw
     case rel=>exact⟨k+1,HKL.out,(by first | rfl | go_num),HW2,HT2⟩
     case measure=>exact meas11 HKL.out
    ·rw[decide_eq_false he] at HCALL;have HF:=hid (HNE.out he);clear he;go_upto_region 6 with fail
     rw[← HBL.out.1];go_upto_region 7 with fail
     rw[← HBL.out.2];go_wp2_with (go_at_call 34;refine HCALL.out.mono ?_;rintro e w2 ⟨rfl,hq⟩;have HW2:=hid (HW12.out.trans (hq.mono HW12.out.size));clear hq;refine Hid.out ?_);refine hid ?_;go_wp2;go_ret;exact⟨ret_bool (decide_eq_false HF.out).symm,HW2.out⟩
   ·obtain rfl:k=hs.length:=Nat.le_antisymm hk (Nat.le_of_not_lt hlt);have HF:=hid (map_full HT.out HL.out);clear hk;go_wp2;go_ret;exact⟨ret_bool (decide_eq_true HF.out).symm,HW.out⟩
 ·have hd:((hs.length:Int) != ks.length)=true:=by simp;omega
  have HF:Hid (hs.map Rh.rw_≠ks.map Rh.rw_):=hid (map_len_ne hl);clear hl;go_enter Tryz.func38,Tryz.ntmps38;go_wp2;go_ret;exact⟨ret_bool (decide_eq_false HF.out).symm,Below.refl _ _⟩
def sameTB (a b:TabL):Bool:=decide (a.st=b.st) && (decide (a.sym=b.sym) && (decide (a.hood=b.hood) && (decide (a.vars=b.vars) && decide (a.rows=b.rows))))
theorem sameTB_iff (a b:TabL):sameTB a b=true ↔ a=b:=by
 obtain⟨a1,a2,a3,a4,a5⟩:=a;obtain⟨b1,b2,b3,b4,b5⟩:=b;unfold sameTB;simp only[Bool.and_eq_true,decide_eq_true_iff,TabL.mk.injEq]
set_option maxHeartbeats 8000000 in
theorem same11_any (x y:TabH)(hA vA rA:Option Addr)(hc vc rc:Nat)(hA' vA' rA':Option Addr)(hc' vc' rc':Nat)(w:World)(hx:TabR w hA vA rA x)(hy:TabR w hA' vA' rA' y) :
  Calls Tryz.prog 12 #[tabV hA hc vA vc rA rc x,tabV hA' hc' vA' vc' rA' rc' y] w fun e w'=>e=.returned (.bool (sameTB x.tab y.tab))∧Below w.heap.size w w':=by
 obtain⟨st,sym,hood,vs,rs⟩:=x;obtain⟨st',sym',hood',vs',rs'⟩:=y;unfold tabV TabH.tab;dsimp only;obtain⟨res,hres⟩:∃ r,r=sameTB ⟨st,sym,hood,vs.map Vh.zs,rs.map Rh.rw_⟩ ⟨st',sym',hood',vs'.map Vh.zs,rs'.map Rh.rw_⟩:=⟨_,rfl⟩
 rw[← hres];unfold sameTB at hres;dsimp only at hres;obtain⟨w1,hw1⟩:∃ w1,w1=w.alloc (.cells #[.int .i64 st,.int .i64 sym,.slice hA hood.length hc,.slice vA vs.length vc,.slice rA rs.length rc] 26):=⟨_,rfl⟩
 obtain⟨w0,hw0⟩:∃ w0,w0=w1.alloc (.cells #[.int .i64 st',.int .i64 sym',.slice hA' hood'.length hc',.slice vA' vs'.length vc',.slice rA' rs'.length rc'] 26):=⟨_,rfl⟩
 have hb1:Below w.heap.size w w1:=by rw[hw1];exact below_new _ _
 have hb0:Below w.heap.size w w0:=by rw[hw0];exact hb1.alloc hb1.size _
 have p0:Blk w0 w.heap.size 26 #[.int .i64 st,.int .i64 sym,.slice hA hood.length hc,.slice vA vs.length vc,.slice rA rs.length rc]:=by rw[hw0,hw1];exact (Blk.new w _ _).alloc _
 have q0:Blk w0 (w.heap.size+1) 26 #[.int .i64 st',.int .i64 sym',.slice hA' hood'.length hc',.slice vA' vs'.length vc',.slice rA' rs'.length rc']:=by
  have h:=Blk.new w1 26 #[.int .i64 st',.int .i64 sym',.slice hA' hood'.length hc',.slice vA' vs'.length vc',.slice rA' rs'.length rc'];rw[← hw0,show w1.heap.size=w.heap.size+1 by rw[hw1];simp] at h;exact h
 have HX:=hid (And.intro (hx.ext hb0) (hy.ext hb0));have HB:=hid hb0;have HW:=hid (hw0.trans (by rw[hw1]));have HP:=hid p0;have HQ:=hid q0;have HC1:=hid (equalPts hA hA' hood hood' hc hc' w0 HX.out.1.hood HX.out.2.hood);have HC2:Hid (∀ W,Below w0.heap.size w0 W→Calls Tryz.prog 37 #[.slice vA vs.length vc,.slice vA' vs'.length vc',.func (.func 35) #[] #[]] W fun e w'=>e=.returned (.bool (decide (vs.map Vh.zs=vs'.map Vh.zs)))∧Below W.heap.size W w'):=hid (fun W hb=>eqfV vA vA' vs vs' vc vc' W (HX.out.1.vars.ext hb) (HX.out.2.vars.ext hb));have HC3:Hid (∀ W,Below w0.heap.size w0 W→Calls Tryz.prog 38 #[.slice rA rs.length rc,.slice rA' rs'.length rc',.func (.func 34) #[] #[]] W fun e w'=>e=.returned (.bool (decide (rs.map Rh.rw_=rs'.map Rh.rw_)))∧Below W.heap.size W w'):=hid (fun W hb=>eqfR rA rA' rs rs' rc rc' W (HX.out.1.rows.ext hb) (HX.out.2.rows.ext hb));clear hb0 hb1 hw0 hw1 p0 q0 hx hy;by_cases h1:st=st'
 ·have d1:(st == st')=true:=beq_iff_eq.2 h1;rw[decide_eq_true h1,Bool.true_and] at hres;clear h1;by_cases h2:sym=sym'
  ·have d2:(sym == sym')=true:=beq_iff_eq.2 h2;rw[decide_eq_true h2,Bool.true_and] at hres;clear h2;cases h3:decide (hood=hood') with
   | false=>
    rw[h3,Bool.false_and] at hres;rw[h3] at HC1;have HR:=hid hres;clear hres h3;have x0:=HP.out.cell_ 0 (.int .i64 st) rfl;have x1:=HP.out.cell_ 1 (.int .i64 sym) rfl;have x2:=HP.out.cell_ 2 (.slice hA hood.length hc) rfl;have x3:=HP.out.cell_ 3 (.slice vA vs.length vc) rfl;have x4:=HP.out.cell_ 4 (.slice rA rs.length rc) rfl;have y0:=HQ.out.cell_ 0 (.int .i64 st') rfl;have y1:=HQ.out.cell_ 1 (.int .i64 sym') rfl;have y2:=HQ.out.cell_ 2 (.slice hA' hood'.length hc') rfl;have y3:=HQ.out.cell_ 3 (.slice vA' vs'.length vc') rfl;have y4:=HQ.out.cell_ 4 (.slice rA' rs'.length rc') rfl;go_enter Tryz.func12,Tryz.ntmps12;go_upto_region 1 with fail
    rw[← HW.out];go_wp2_with (go_at_call 36;refine HC1.out.mono ?_;rintro e w2 ⟨rfl,hq⟩;have HB2:=hid (HB.out.trans ((hq.below _).mono HB.out.size));clear hq;refine Hid.out ?_);refine hid ?_;go_wp2;go_ret;exact⟨ret_bool HR.out.symm,HB2.out⟩
   | true=>
    rw[h3,Bool.true_and] at hres;rw[h3] at HC1;clear h3;cases h4:decide (vs.map Vh.zs=vs'.map Vh.zs) with
    | false=>
     rw[h4,Bool.false_and] at hres;rw[h4] at HC2;have HR:=hid hres;clear hres h4;have x0:=HP.out.cell_ 0 (.int .i64 st) rfl;have x1:=HP.out.cell_ 1 (.int .i64 sym) rfl;have x2:=HP.out.cell_ 2 (.slice hA hood.length hc) rfl;have x3:=HP.out.cell_ 3 (.slice vA vs.length vc) rfl;have x4:=HP.out.cell_ 4 (.slice rA rs.length rc) rfl;have y0:=HQ.out.cell_ 0 (.int .i64 st') rfl;have y1:=HQ.out.cell_ 1 (.int .i64 sym') rfl;have y2:=HQ.out.cell_ 2 (.slice hA' hood'.length hc') rfl;have y3:=HQ.out.cell_ 3 (.slice vA' vs'.length vc') rfl;have y4:=HQ.out.cell_ 4 (.slice rA' rs'.length rc') rfl;go_enter Tryz.func12,Tryz.ntmps12;go_upto_region 1 with fail
     rw[← HW.out];go_wp2_with (go_at_call 36;refine HC1.out.mono ?_;rintro e w2 ⟨rfl,hq⟩;have HBQ:=hid (hq.below w0.heap.size);have HB2:=hid (HB.out.trans (HBQ.out.mono HB.out.size));clear hq x0 y0 x1 y1 x2 y2 x3 y3 x4 y4;have HP2:=hid (HP.out.below HBQ.out HP.out.lt);have HQ2:=hid (HQ.out.below HBQ.out HQ.out.lt);have x3:=HP2.out.cell_ 3 (.slice vA vs.length vc) rfl;have x4:=HP2.out.cell_ 4 (.slice rA rs.length rc) rfl;have y3:=HQ2.out.cell_ 3 (.slice vA' vs'.length vc') rfl;have y4:=HQ2.out.cell_ 4 (.slice rA' rs'.length rc') rfl;refine Hid.out ?_);refine hid ?_;go_wp2_with (go_at_call 37;refine (HC2.out _ HBQ.out).mono ?_;rintro e w3 ⟨rfl,hq⟩;have HB3:=hid (HB2.out.trans (hq.mono HB2.out.size));clear hq;refine Hid.out ?_);refine hid ?_;go_wp2;go_ret;exact⟨ret_bool HR.out.symm,HB3.out⟩
    | true=>
     rw[h4,Bool.true_and] at hres;rw[h4] at HC2;have HR:=hid hres;clear hres h4;have x0:=HP.out.cell_ 0 (.int .i64 st) rfl;have x1:=HP.out.cell_ 1 (.int .i64 sym) rfl;have x2:=HP.out.cell_ 2 (.slice hA hood.length hc) rfl;have x3:=HP.out.cell_ 3 (.slice vA vs.length vc) rfl;have x4:=HP.out.cell_ 4 (.slice rA rs.length rc) rfl;have y0:=HQ.out.cell_ 0 (.int .i64 st') rfl;have y1:=HQ.out.cell_ 1 (.int .i64 sym') rfl;have y2:=HQ.out.cell_ 2 (.slice hA' hood'.length hc') rfl;have y3:=HQ.out.cell_ 3 (.slice vA' vs'.length vc') rfl;have y4:=HQ.out.cell_ 4 (.slice rA' rs'.length rc') rfl;go_enter Tryz.func12,Tryz.ntmps12;go_upto_region 1 with fail
     rw[← HW.out];go_wp2_with (go_at_call 36;refine HC1.out.mono ?_;rintro e w2 ⟨rfl,hq⟩;have HBQ:=hid (hq.below w0.heap.size);have HB2:=hid (HB.out.trans (HBQ.out.mono HB.out.size));clear hq x0 y0 x1 y1 x2 y2 x3 y3 x4 y4;have HP2:=hid (HP.out.below HBQ.out HP.out.lt);have HQ2:=hid (HQ.out.below HBQ.out HQ.out.lt);have x3:=HP2.out.cell_ 3 (.slice vA vs.length vc) rfl;have x4:=HP2.out.cell_ 4 (.slice rA rs.length rc) rfl;have y3:=HQ2.out.cell_ 3 (.slice vA' vs'.length vc') rfl;have y4:=HQ2.out.cell_ 4 (.slice rA' rs'.length rc') rfl;refine Hid.out ?_);refine hid ?_;go_wp2_with (go_at_call 37;refine (HC2.out _ HBQ.out).mono ?_;rintro e w3 ⟨rfl,hq⟩;have HB3:=hid (HB2.out.trans (hq.mono HB2.out.size));have HBR:=hid (HBQ.out.trans (hq.mono HBQ.out.size));clear hq x3 y3 x4 y4;have HP3:=hid (HP.out.below HBR.out HP.out.lt);have HQ3:=hid (HQ.out.below HBR.out HQ.out.lt);have x4:=HP3.out.cell_ 4 (.slice rA rs.length rc) rfl;have y4:=HQ3.out.cell_ 4 (.slice rA' rs'.length rc') rfl;refine Hid.out ?_);refine hid ?_;go_wp2_with (go_at_call 38;refine (HC3.out _ HBR.out).mono ?_;rintro e w4 ⟨rfl,hq⟩;have HB4:=hid (HB3.out.trans (hq.mono HB3.out.size));clear hq;refine Hid.out ?_);refine hid ?_;go_wp2;go_ret;exact⟨ret_bool HR.out.symm,HB4.out⟩
  ·have d2:(sym == sym')=false:=beq_eq_false_iff_ne.2 h2;rw[decide_eq_false h2,Bool.false_and] at hres;have HR:=hid hres;clear h2 hres;have x0:=HP.out.cell_ 0 (.int .i64 st) rfl;have x1:=HP.out.cell_ 1 (.int .i64 sym) rfl;have x2:=HP.out.cell_ 2 (.slice hA hood.length hc) rfl;have x3:=HP.out.cell_ 3 (.slice vA vs.length vc) rfl;have x4:=HP.out.cell_ 4 (.slice rA rs.length rc) rfl;have y0:=HQ.out.cell_ 0 (.int .i64 st') rfl;have y1:=HQ.out.cell_ 1 (.int .i64 sym') rfl;have y2:=HQ.out.cell_ 2 (.slice hA' hood'.length hc') rfl;have y3:=HQ.out.cell_ 3 (.slice vA' vs'.length vc') rfl;have y4:=HQ.out.cell_ 4 (.slice rA' rs'.length rc') rfl;go_enter Tryz.func12,Tryz.ntmps12;go_upto_region 1 with fail
   rw[← HW.out];go_wp2;go_ret;exact⟨ret_bool HR.out.symm,HB.out⟩
 ·have d1:(st == st')=false:=beq_eq_false_iff_ne.2 h1;rw[decide_eq_false h1,Bool.false_and] at hres;have HR:=hid hres;clear h1 hres;have x0:=HP.out.cell_ 0 (.int .i64 st) rfl;have x1:=HP.out.cell_ 1 (.int .i64 sym) rfl;have x2:=HP.out.cell_ 2 (.slice hA hood.length hc) rfl;have x3:=HP.out.cell_ 3 (.slice vA vs.length vc) rfl;have x4:=HP.out.cell_ 4 (.slice rA rs.length rc) rfl;have y0:=HQ.out.cell_ 0 (.int .i64 st') rfl;have y1:=HQ.out.cell_ 1 (.int .i64 sym') rfl;have y2:=HQ.out.cell_ 2 (.slice hA' hood'.length hc') rfl;have y3:=HQ.out.cell_ 3 (.slice vA' vs'.length vc') rfl;have y4:=HQ.out.cell_ 4 (.slice rA' rs'.length rc') rfl;go_enter Tryz.func12,Tryz.ntmps12;go_upto_region 1 with fail
  rw[← HW.out];go_wp2;go_ret;exact⟨ret_bool HR.out.symm,HB.out⟩
end Go.Proofs.YtcmbdhopmncmnaaGreatDoor
namespace Go.Proofs.YtcmbdhopmncmnaaGreatDoor
set_option linter.unusedSimpArgs false
open Go.RowKit
set_option maxRecDepth 100000
set_option linter.unusedVariables false
theorem Tryz.sizeBuilder:(Tryz.prog.info? 80).map (·.size)=some 2:=by kernel_rfl
theorem Tryz.liesBuilder:liesAt Tryz.prog Tryz.prog.depth 80 (2 / Tryz.prog.cellsOf 80) 0 80 1=true:=by kernel_rfl
theorem Tryz.infoByteB:(Tryz.prog.info? 5).map (fun i=>(i.zero,i.size,i.bytes))=some (some (.int .u8 0),1,1):=by kernel_rfl
set_option maxHeartbeats 1000000 in
theorem copyCheck_used (b:Nat)(w:World)(h0:w.cell? ⟨b,0,none⟩=some (.pointer (some ⟨b,0,none⟩))) :
  Calls Tryz.prog 100 #[.pointer (some ⟨b,0,none⟩)] w fun e w'=>e=.returned (.tuple #[])∧w'=w:=by
 obtain⟨j,hj,_⟩:=Option.map_eq_some_iff.1 Tryz.sizeBuilder;go_enter Tryz.func100,Tryz.ntmps100;go_wp2;rw[Lib.run_neq_ptr_same w _ Tryz.underlying77 hj];go_wp2
 go_end0
 exact⟨rfl,rfl⟩
set_option maxHeartbeats 1000000 in
theorem copyCheck_fresh (b:Nat)(w:World)(h0:w.cell? ⟨b,0,none⟩=some (.pointer none))(hsh:w.shape? b=some (80,2))(hfz:w.frozen? ⟨b,0,none⟩=false) :
  Calls Tryz.prog 100 #[.pointer (some ⟨b,0,none⟩)] w fun e w'=>e=.returned (.tuple #[])∧w'=w.setCell ⟨b,0,none⟩ (.pointer (some ⟨b,0,none⟩)):=by
 obtain⟨j,hj,hjs⟩:=Option.map_eq_some_iff.1 Tryz.sizeBuilder;go_enter Tryz.func100,Tryz.ntmps100;go_wp2;rw[Lib.run_to_unsafe w ⟨b,0,none⟩ Tryz.underlying77 Tryz.underlying134 hj (by rw[hjs];decide) hsh (Nat.zero_lt_succ 1)];simp only[Result.andThen];rw[Oper.upon_value];go_wp2;rw[run_callFunc_extern Tryz.func124 (by kernel_rfl) (by kernel_rfl) (by kernel_rfl) (e:=Extern.AbiNoEscape.same) (by kernel_rfl)];rw[Lib.run_noEscape];simp only[Result.andThen];rw[Oper.upon_value];go_wp2;rw[Lib.run_from_unsafe w ⟨b,0,none⟩ Tryz.underlying134 Tryz.underlying77 hj hsh Tryz.liesBuilder];simp only[Result.andThen];rw[Oper.upon_value];go_wp2
 go_end0
 exact⟨rfl,rfl⟩

def KeptB (b:Nat)(w w':World):Prop:=∀ g t cs,5≠t→g≠b→Blk w g t cs→Blk w' g t cs
theorem KeptB.refl (b:Nat)(w:World):KeptB b w w:=fun _ _ _ _ _ h=>h
theorem KeptB.setCell {b:Nat}{u w:World}(h:KeptB b u w)(i:Nat)(x:Value):KeptB b u (w.setCell ⟨b,i,none⟩ x):=fun g t cs h1 h2 h3=>(h g t cs h1 h2 h3).far h2 x
theorem copyCheckK_any (B b:Nat)(bs:List Value)(w:World)(h:Lib.IsBuilder 80 5 B b bs w) :
  Calls Tryz.prog 100 #[.pointer (some ⟨b,0,none⟩)] w fun e w'=>e=.returned (.tuple #[])∧(Lib.BuilderAt 80 5 B b (.pointer (some ⟨b,0,none⟩)) bs w'∧Below B w w'∧KeptB b w w'):=by
 rcases h with h | h
 ·refine (copyCheck_fresh b w h.cell0 h.shape h.frozen0).mono ?_;rintro e w' ⟨rfl,rfl⟩;exact⟨rfl,h.used _,(Below.refl B w).setCell (p:=⟨b,0,none⟩) h.1 _,(KeptB.refl b w).setCell 0 _⟩
 ·refine (copyCheck_used b w h.cell0).mono ?_;rintro e w' ⟨rfl,rfl⟩;exact⟨rfl,h,Below.refl B _,KeptB.refl b _⟩
set_option maxHeartbeats 2000000 in
theorem writeStringK_any (B b:Nat)(bs:List Value)(s:ByteArray)(w:World)(h:Lib.IsBuilder 80 5 B b bs w)(hlen:bs.length+s.size≤140737488355328)(hBw:B≤w.heap.size) :
  Calls Tryz.prog 56 #[.pointer (some ⟨b,0,none⟩),.string s] w fun e w'=>e=.returned (.tuple #[.int .i64 s.size,.nilIface])∧(Lib.BuilderAt 80 5 B b (.pointer (some ⟨b,0,none⟩)) (bs ++ Lib.strCells s) w'∧Below B w w'∧KeptB b w w'):=by
 obtain⟨i0,hi,hz0,hz1,hz2⟩:=info_parts Tryz.infoByteB;go_enter Tryz.func56,Tryz.ntmps56;go_wp2_with (go_at_call 100;refine (copyCheckK_any B b bs _ h).mono ?_);rintro e w1 ⟨rfl,h1,hb1,hk1⟩;obtain⟨hB,v,hbk,hown,hne⟩:=h1;have c0:w1.cell? ⟨b,0,none⟩=some (.pointer (some ⟨b,0,none⟩)):=by rw[Lib.cell_of_heap hbk];rfl
 have c1:w1.cell? ⟨b,1,none⟩=some v:=by rw[Lib.cell_of_heap hbk];rfl
 go_wp2_with (at_builtin;refine Lib.wpList_append_own_string _ rfl _ _ 78 9 rfl B 5 i0 Tryz.underlying78 Tryz.underlying9 hi hz0 hz1 hz2 _ _ _ rfl hown s rfl ?c3 ?c4 ?c5 ?_)
 case c3=>unfold maxLen;omega
 case c4=>omega
 case c5=>have:=hb1.size;omega
 intro v' w2 hown' hgrow _;have hlt:b < w1.heap.size:=by
  rcases Nat.lt_or_ge b w1.heap.size with h' | h'
  ·exact h'
  ·simp[Array.getElem?_eq_none h'] at hbk
 have hb2:w2.heap[b]?=some (.cells #[.pointer (some ⟨b,0,none⟩),v] 80 (0,0)):=by
  rw[hgrow.block b hlt (fun e=>hne e.symm)];exact hbk
 have d0:w2.cell? ⟨b,0,none⟩=some (.pointer (some ⟨b,0,none⟩)):=by rw[Lib.cell_of_heap hb2];rfl
 have d1:w2.cell? ⟨b,1,none⟩=some v:=by rw[Lib.cell_of_heap hb2];rfl
 have f1:w2.frozen? ⟨b,1,none⟩=false:=Lib.frozen_of_heap hb2 1;obtain⟨ao,n',cap,rfl⟩:∃ ao n' cap,v'=.slice ao n' cap:=by
  rcases hown'.2 with ⟨hv,_⟩ | ⟨g,cap,cur,hv,_⟩
  ·exact⟨_,_,_,hv⟩
  ·exact⟨_,_,_,hv⟩
 go_wp2;go_ret2;refine⟨rfl,?_,?_,?_⟩
 ·exact Lib.BuilderAt.put (T:=80) (e:=5) hB hb2 (bs':=bs ++ Lib.strCells s) (by simpa [Lib.strCells_length] using hown') (by decide)
 ·exact (hb1.grown hgrow (by have:=hb1.size;omega) (fun k hk=>(hown.lt k hk).1)).setCell (p:=⟨b,1,none⟩) hB _
 ·intro g t cs h1 h2 h3;exact (((hk1 g t cs h1 h2 h3).grown hgrow (fun e=>own_blk_ne hown (hk1 g t cs h1 h2 h3) h1 e.symm)).far h2 _)
end Go.Proofs.YtcmbdhopmncmnaaGreatDoor
