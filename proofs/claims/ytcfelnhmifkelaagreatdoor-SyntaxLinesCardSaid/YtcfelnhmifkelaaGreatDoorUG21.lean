/-
  texts CmdP CmdM ScrP TxtP56: parts of the proof; conditions stand with each theorem.
-/
import Derived.Test.YtcfelnhmifkelaaGreatDoorUG20
import Derived.Test.YtcfelnhmifkelaaGreatDoorUG18
import Derived.Test.YtcfelnhmifkelaaGreatDoorUG5
import Derived.Lib.ItoaLen
namespace Go.Proofs.YtcfelnhmifkelaaGreatDoor
open Go.RowKit
set_option maxRecDepth 100000
set_option linter.unusedVariables false
set_option linter.unusedSimpArgs false
def hdrW:List UInt8:=[120,32,61,32,49,48,52,56,53,55,55,44,32,121,32,61,32,49,48,52,56,53,55,55,44,32,114,117,108,101,32,61,32,82,10]
def badName (s:Slot)(w:List UInt8):Bool:=(decide (s.k=1) && !ruleV w) || (decide (s.k=2) && !nmW w)
def namesTo:List Slot→List (List UInt8)→Bool
 | [],_=>true
 | _ :: _,[]=>true
 | s :: ss,w :: ws=>!badName s w && namesTo ss ws
def fillTo:List Slot→List (List UInt8)→Cmd→Option Cmd
 | [],_,c=>some c
 | _ :: _,[],c=>some c
 | s :: ss,w :: ws,c=>if s.k=1∨s.k=2 then fillTo ss ws { c with name:=w } else if s.k=4 then (if (valW w).1 < s.lo∨s.hi < (valW w).1 then none else fillTo ss ws (c.set s.fld (valW w).1)) else fillTo ss ws c
def readC (w:List UInt8):List Cel × Int:=((parseL (hdrW ++ w)).1,(parseL (hdrW ++ w)).2.2)
def runsTo:List Slot→List (List UInt8)→Cmd→Cmd × Int
 | [],_,c=>(c,0)
 | _ :: _,[],c=>(c,0)
 | s :: ss,w :: ws,c=>if s.k=3 then (if (readC w).2≠0 then (cmd0,(readC w).2) else runsTo ss ws { c with cells:=homeC (readC w).1 }) else runsTo ss ws c
def cmdP (f:Form)(ws:List (List UInt8)):Cmd × Int:=
 if namesTo f.slots ws.tail=false then (cmd0,7) else match fillTo f.slots ws.tail { cmd0 with kind:=f.kind } with
  | none=>(cmd0,5)
  | some c=>runsTo f.slots ws.tail c
theorem form_shape {k:Int}(hk:k ∈ kinds12):∃ f fs,formR k=f :: fs∧(slotR f).k=0∧((∀ f ∈ formR k,(slotR f).k≠3)∨(∀ f ∈ formR k,(slotR f).k≠4))∧(∀ f ∈ formR k,(slotR f).k=0→(slotR f).text=f)∧(∀ f ∈ formR k,(slotR f).k≤4):=by
 simp only[kinds12,List.mem_cons,List.not_mem_nil,or_false] at hk;rcases hk with rfl | rfl | rfl | rfl | rfl | rfl | rfl | rfl | rfl | rfl | rfl | rfl <;> exact⟨_,_,rfl,rfl,by decide,by decide,by decide⟩
def rgtTo:List Slot→Cmd→Cmd→Option Cmd
 | [],c,r=>some r
 | s :: ss,c,r=>if s.k=1∨s.k=2 then (if badName s c.name=true then none else rgtTo ss c { r with name:=[] }) else if s.k=3 then (if homedB c.cells=true then rgtTo ss c { r with cells:=[] } else none) else if s.k=4 then (if c.get s.fld < s.lo∨s.hi < c.get s.fld then none else rgtTo ss c (r.set s.fld 0)) else rgtTo ss c r
def emptyC (r:Cmd):Bool:=decide (r.x=0) && decide (r.y=0) && decide (r.n=0) && decide (r.m=0) && decide (r.name=[]) && decide (r.cells=[]) && (decide (r.p=0) && decide (r.dx=0) && decide (r.dy=0))
def kindF (k:Int):Option Form:=formsP.find? fun f=>decide (f.kind=k)
def rightP (c:Cmd):Bool:=match kindF c.kind with
 | none=>false
 | some f=>match rgtTo f.slots c { c with kind:=0 } with
  | none=>false
  | some r=>emptyC r
def rrTo:List (List UInt8)→Cmd→Cmd→Bool→Option (Cmd × Bool)
 | [],c,o,b=>some (o,b)
 | f :: fs,c,o,b=>if (slotR f).k=1∨(slotR f).k=2 then (if badName (slotR f) c.name=true then none else rrTo fs c { o with name:=c.name } b) else if (slotR f).k=3 then rrTo fs c o true else if (slotR f).k=4 then (if c.get (slotR f).fld < (slotR f).lo∨(slotR f).hi < c.get (slotR f).fld then none else rrTo fs c (o.set (slotR f).fld (c.get (slotR f).fld)) b) else rrTo fs c o b
def rendB (o c:Cmd)(b:Bool):Bool:=!((b && !homedB c.cells) || (!b && decide (c.cells≠[]))) && (decide (o.x=c.x) && decide (o.y=c.y) && decide (o.n=c.n) && decide (o.m=c.m) && decide (o.name=c.name) && (decide (o.p=c.p) && decide (o.dx=c.dx) && decide (o.dy=c.dy)))
def rrightP (c:Cmd):Bool:=if formR c.kind=[] then false else match rrTo (formR c.kind) c { cmd0 with kind:=c.kind } false with
 | none=>false
 | some (o,b)=>rendB o c b
theorem kind_in (k:Int):(k ∈ kinds12∧kindF k=some (formK k))∨(formR k=[]∧kindF k=none):=by
 by_cases h:k ∈ kinds12
 ·refine .inl ⟨h,?_⟩;simp only[kinds12,List.mem_cons,List.not_mem_nil,or_false] at h;rcases h with rfl | rfl | rfl | rfl | rfl | rfl | rfl | rfl | rfl | rfl | rfl | rfl <;> rfl
 ·refine .inr ?_;simp only[kinds12,List.mem_cons,List.not_mem_nil,or_false,not_or] at h;obtain⟨h1,h2,h3,h4,h5,h6,h7,h8,h9,h10,h11,h12⟩:=h;constructor
  ·unfold formR;simp only[h1,h2,h3,h4,h5,h6,h7,h8,h9,h10,h11,h12,if_false]
  ·unfold kindF;rw[List.find?_eq_none];intro f hf;rw[formsK] at hf;obtain⟨i,hi,rfl⟩:=List.mem_map.1 hf;have e:(formK i).kind=i:=rfl;rw[e,decide_eq_true_eq];rintro rfl;simp only[List.mem_cons,List.not_mem_nil,or_false] at hi;omega
def Tk (o c r:Int):Prop:=(o=c∧r=0)∨(o=0∧r=c)
theorem Tk.iff {o c r:Int}(h:Tk o c r):decide (o=c)=decide (r=0):=by
 rcases h with ⟨h1,h2⟩ | ⟨h1,h2⟩
 ·rw[decide_eq_true h1,decide_eq_true h2]
 ·by_cases h:c=0
  ·rw[decide_eq_true (by omega),decide_eq_true (by omega)]
  ·rw[decide_eq_false (by omega),decide_eq_false (by omega)]
theorem Tk.yes (c:Int):Tk c c 0:=.inl ⟨rfl,rfl⟩
structure Twin (c o r:Cmd):Prop where
 x:Tk o.x c.x r.x
 y:Tk o.y c.y r.y
 n:Tk o.n c.n r.n
 m:Tk o.m c.m r.m
 p:Tk o.p c.p r.p
 dx:Tk o.dx c.dx r.dx
 dy:Tk o.dy c.dy r.dy
 nm:(o.name=c.name∧r.name=[])∨(o.name=[]∧r.name=c.name)
theorem Twin.set {c o r:Cmd}(h:Twin c o r)(f:Nat):Twin c (o.set f (c.get f)) (r.set f 0):=by
 unfold Cmd.set Cmd.get;by_cases h1:f=1
 ·simp only[if_pos h1];exact { h with x:=Tk.yes _ }
 by_cases h2:f=2
 ·simp only[if_neg h1,if_pos h2];exact { h with y:=Tk.yes _ }
 by_cases h3:f=3
 ·simp only[if_neg h1,if_neg h2,if_pos h3];exact { h with n:=Tk.yes _ }
 by_cases h4:f=4
 ·simp only[if_neg h1,if_neg h2,if_neg h3,if_pos h4];exact { h with m:=Tk.yes _ }
 by_cases h7:f=7
 ·simp only[if_neg h1,if_neg h2,if_neg h3,if_neg h4,if_pos h7];exact { h with p:=Tk.yes _ }
 by_cases h8:f=8
 ·simp only[if_neg h1,if_neg h2,if_neg h3,if_neg h4,if_neg h7,if_pos h8];exact { h with dx:=Tk.yes _ }
 ·simp only[if_neg h1,if_neg h2,if_neg h3,if_neg h4,if_neg h7,if_neg h8];exact { h with dy:=Tk.yes _ }
theorem set_cells0 (c:Cmd)(f:Nat)(v:Int):(c.set f v).cells=c.cells:=by
 unfold Cmd.set
 repeat' split
 all_goals rfl
theorem Twin.end_ {c o r:Cmd}{b:Bool}(h:Twin c o r)(hc:r.cells=if b then [] else c.cells)(hb:b=true→homedB c.cells=true):rendB o c b=emptyC r:=by
 unfold rendB emptyC;rw[h.x.iff,h.y.iff,h.n.iff,h.m.iff,h.p.iff,h.dx.iff,h.dy.iff];have hn:decide (o.name=c.name)=decide (r.name=[]):=by
  rcases h.nm with ⟨h1,h2⟩ | ⟨h1,h2⟩
  ·rw[decide_eq_true h1,decide_eq_true h2]
  ·rw[h1,h2];by_cases h:c.name=[]
   ·rw[h]
   ·rw[decide_eq_false h,decide_eq_false (fun e=>h e.symm)]
 rw[hn];cases b with
 | true=>
  have hc2:decide (r.cells=[])=true:=by rw[hc];rfl
  rw[hb rfl,hc2];simp[Bool.and_assoc]
 | false=>
  have hc2:r.cells=c.cells:=hc;rw[hc2];by_cases he:c.cells=[]
  ·simp[he,Bool.and_assoc]
  ·simp[he]
theorem rr_gen:∀ (fs:List (List UInt8)) (c o r:Cmd)(b:Bool),Twin c o r→(r.cells=if b then [] else c.cells)→(b=true→homedB c.cells=true)→
  (match rrTo fs c o b with | none=>false | some (o,b)=>rendB o c b)=(match rgtTo (fs.map slotR) c r with | none=>false | some r=>emptyC r)
 | [],c,o,r,b,h,hc,hb=>by
  rw[rrTo,List.map_nil,rgtTo];exact h.end_ hc hb
 | f :: fs,c,o,r,b,h,hc,hb=>by
  rw[rrTo,List.map_cons,rgtTo];by_cases h1:(slotR f).k=1∨(slotR f).k=2
  ·rw[if_pos h1,if_pos h1];by_cases hn:badName (slotR f) c.name=true
   ·rw[if_pos hn,if_pos hn]
   ·rw[if_neg hn,if_neg hn];exact rr_gen fs c _ _ b { h with nm:=.inl ⟨rfl,rfl⟩ } hc hb
  ·rw[if_neg h1,if_neg h1];by_cases h3:(slotR f).k=3
   ·rw[if_pos h3,if_pos h3];by_cases hh:homedB c.cells=true
    ·rw[if_pos hh];exact rr_gen fs c o _ true { h with } rfl (fun _=>hh)
    ·rw[if_neg hh];exact rr_bad fs c o (by simpa using hh)
   ·rw[if_neg h3,if_neg h3];by_cases h4:(slotR f).k=4
    ·rw[if_pos h4,if_pos h4];by_cases hr:c.get (slotR f).fld < (slotR f).lo∨(slotR f).hi < c.get (slotR f).fld
     ·rw[if_pos hr,if_pos hr]
     ·rw[if_neg hr,if_neg hr];exact rr_gen fs c _ _ b (h.set _) (by rw[set_cells0];exact hc) hb
    ·rw[if_neg h4,if_neg h4];exact rr_gen fs c o r b h hc hb
where
 rr_bad:∀ (fs:List (List UInt8)) (c o:Cmd),homedB c.cells=false→(match rrTo fs c o true with | none=>false | some (o,b)=>rendB o c b)=false
  | [],c,o,h=>by
   rw[rrTo];show rendB o c true=false;unfold rendB;rw[h];rfl
  | f :: fs,c,o,h=>by
   rw[rrTo];by_cases h1:(slotR f).k=1∨(slotR f).k=2
   ·rw[if_pos h1];by_cases hn:badName (slotR f) c.name=true
    ·rw[if_pos hn]
    ·rw[if_neg hn];exact rr_bad fs c _ h
   ·rw[if_neg h1];by_cases h3:(slotR f).k=3
    ·rw[if_pos h3];exact rr_bad fs c o h
    ·rw[if_neg h3];by_cases h4:(slotR f).k=4
     ·rw[if_pos h4];by_cases hr:c.get (slotR f).fld < (slotR f).lo∨(slotR f).hi < c.get (slotR f).fld
      ·rw[if_pos hr]
      ·rw[if_neg hr];exact rr_bad fs c _ h
     ·rw[if_neg h4];exact rr_bad fs c o h
theorem rright_eq (c:Cmd):rrightP c=rightP c:=by
 unfold rrightP rightP;rcases kind_in c.kind with ⟨h,h2⟩ | ⟨h,h2⟩
 ·obtain⟨f,fs,ef,h0,-,-,-⟩:=form_shape h;have es:(formK c.kind).slots=fs.map slotR:=by unfold formK;rw[ef];rfl
  rw[h2,if_neg (by rw[ef];simp)];dsimp only;rw[ef,es,rrTo,if_neg (by omega),if_neg (by omega),if_neg (by omega)];exact rr_gen fs c _ _ false ⟨.inr ⟨rfl,rfl⟩,.inr ⟨rfl,rfl⟩,.inr ⟨rfl,rfl⟩,.inr ⟨rfl,rfl⟩,.inr ⟨rfl,rfl⟩,.inr ⟨rfl,rfl⟩,.inr ⟨rfl,rfl⟩,.inr ⟨rfl,rfl⟩⟩ rfl (fun h=>by cases h)
 ·rw[h2,if_pos h]
def runW (t:List UInt8):List UInt8:=(afterLine t).filter (fun c=>c != 10)
def lineTo:List Slot→Cmd→List (List UInt8)→List (List UInt8) × Int
 | [],c,a=>(a,0)
 | s :: ss,c,a=>if s.k=0 then lineTo ss c (a ++ [s.text]) else if s.k=1∨s.k=2 then lineTo ss c (a ++ [c.name]) else if s.k=3 then (if (textL c.cells [82]).2≠0 then ([],(textL c.cells [82]).2) else lineTo ss c (a ++ [runW (textL c.cells [82]).1])) else if s.k=4 then lineTo ss c (a ++ [Lib.itoa (c.get s.fld)]) else lineTo ss c a
def joinW:List (List UInt8)→List UInt8
 | []=>[]
 | w :: ws=>ws.foldl (fun s x=>s ++ ([32] ++ x)) w
def lineP (c:Cmd):List UInt8 × Int:=if rightP c=false then ([],2) else match kindF c.kind with
 | none=>([],2)
 | some f=>if (lineTo f.slots c [f.word]).2≠0 then ([],(lineTo f.slots c [f.word]).2) else (joinW (lineTo f.slots c [f.word]).1,0)
theorem joinW_snoc {a:List (List UInt8)} (h:a≠[])(w:List UInt8):joinW (a ++ [w])=joinW a ++ ([32] ++ w):=by
 cases a with
 | nil=>exact absurd rfl h
 | cons b l=>show (l ++ [w]).foldl _ b=_;rw[List.foldl_append];rfl
def wordR (f:List UInt8)(c:Cmd):List UInt8:=if (slotR f).k=0 then f else if (slotR f).k=1∨(slotR f).k=2 then c.name else if (slotR f).k=3 then runW (textL c.cells [82]).1 else Lib.itoa (c.get (slotR f).fld)
def badRun (f:List UInt8)(c:Cmd):Bool:=decide ((slotR f).k=3) && decide ((textL c.cells [82]).2≠0)
def rlineTo:List (List UInt8)→Cmd→Bool→List UInt8→List UInt8 × Int
 | [],c,b,s=>(s,0)
 | f :: fs,c,b,s=>if badRun f c=true then ([],(textL c.cells [82]).2) else rlineTo fs c true ((if b then s ++ [32] else s) ++ wordR f c)
def rlineP (c:Cmd):List UInt8 × Int:=if rightP c=false then ([],2) else rlineTo (formR c.kind) c false []
theorem rline_to:∀ (fs:List (List UInt8)) (c:Cmd)(a:List (List UInt8)),a≠[]→(∀ f ∈ fs,(slotR f).k=0→(slotR f).text=f)→(∀ f ∈ fs,(slotR f).k≤4)→rlineTo fs c true (joinW a)=if (lineTo (fs.map slotR) c a).2≠0 then ([],(lineTo (fs.map slotR) c a).2) else (joinW (lineTo (fs.map slotR) c a).1,0)
 | [],c,a,_,_,_=>by rw[rlineTo,List.map_nil,lineTo];simp
 | f :: fs,c,a,ha,h0,h4=>by
  have ih:=rline_to fs c (a ++ [wordR f c]) (by simp) (fun g hg=>h0 g (List.mem_cons_of_mem _ hg)) (fun g hg=>h4 g (List.mem_cons_of_mem _ hg));have hf4:=h4 f List.mem_cons_self;have hf0:=h0 f List.mem_cons_self;rw[joinW_snoc ha] at ih;rw[rlineTo,List.map_cons,lineTo,if_pos rfl,List.append_assoc];by_cases k0:(slotR f).k=0
  ·have hw:wordR f c=(slotR f).text:=by unfold wordR;rw[if_pos k0,hf0 k0]
   have hb:badRun f c=false:=by unfold badRun;rw[k0];rfl
   rw[hb,if_neg Bool.false_ne_true,ih,if_pos k0,hw]
  ·by_cases k1:(slotR f).k=1∨(slotR f).k=2
   ·have hw:wordR f c=c.name:=by unfold wordR;rw[if_neg k0,if_pos k1]
    have hb:badRun f c=false:=by unfold badRun;rw[decide_eq_false (by omega)];rfl
    rw[hb,if_neg Bool.false_ne_true,ih,if_neg k0,if_pos k1,hw]
   ·by_cases k3:(slotR f).k=3
    ·have hw:wordR f c=runW (textL c.cells [82]).1:=by unfold wordR;rw[if_neg k0,if_neg k1,if_pos k3]
     rw[if_neg k0,if_neg k1,if_pos k3];by_cases he:(textL c.cells [82]).2≠0
     ·have hb:badRun f c=true:=by unfold badRun;rw[decide_eq_true k3,decide_eq_true he];rfl
      rw[hb,if_pos rfl,if_pos he];dsimp only;rw[if_pos he]
     ·have hb:badRun f c=false:=by unfold badRun;rw[decide_eq_false he,Bool.and_false]
      rw[hb,if_neg Bool.false_ne_true,ih,if_neg he,hw]
    ·have k4:(slotR f).k=4:=by omega
     have hw:wordR f c=Lib.itoa (c.get (slotR f).fld):=by unfold wordR;rw[if_neg k0,if_neg k1,if_neg k3]
     have hb:badRun f c=false:=by unfold badRun;rw[decide_eq_false (by omega)];rfl
     rw[hb,if_neg Bool.false_ne_true,ih,if_neg k0,if_neg k1,if_neg k3,if_pos k4,hw]
theorem rline_eq (c:Cmd):rlineP c=lineP c:=by
 unfold rlineP lineP;cases hr:rightP c with
 | false=>rw[if_pos rfl,if_pos rfl]
 | true=>
  rw[if_neg (by simp),if_neg (by simp)];rcases kind_in c.kind with ⟨h,h2⟩ | ⟨h,h2⟩
  ·rw[h2];dsimp only;obtain⟨f,fs,e,k0,-,g1',g2'⟩:=form_shape h;have g1:∀ g ∈ fs,(slotR g).k=0→(slotR g).text=g:=fun g hg=>g1' g (by rw[e];exact List.mem_cons_of_mem _ hg);have g2:∀ g ∈ fs,(slotR g).k≤4:=fun g hg=>g2' g (by rw[e];exact List.mem_cons_of_mem _ hg);unfold formK;rw[e];have hb:badRun f c=false:=by unfold badRun;rw[k0];rfl
   have hw:wordR f c=f:=by unfold wordR;rw[if_pos k0]
   have:=rline_to fs c [f] (by simp) g1 g2;rw[rlineTo,hb,if_neg Bool.false_ne_true,hw];exact this
  ·unfold rightP at hr;rw[h2] at hr;cases hr
def nmV (c:Cmd):ByteArray:=⟨c.name.toArray⟩
theorem nmV_data (c:Cmd):(nmV c).data.toList=c.name:=rfl
theorem ba_eta (b:ByteArray):(⟨b.data.toList.toArray⟩:ByteArray)=b:=by cases b;rfl
def cmdCells (p:Cmd × Value):List Value:=[.int .i64 p.1.kind,.int .i64 p.1.x,.int .i64 p.1.y,.int .i64 p.1.n,.int .i64 p.1.m,.string (nmV p.1),p.2,.int .i64 p.1.p,.int .i64 p.1.dx,.int .i64 p.1.dy]
theorem flat10 {α:Type} (f:α→List Value)(hf:∀ x,(f x).length=10):∀ (ps:List α)(k:Nat)(hk:k < ps.length)(i:Nat),i < 10→(ps.flatMap f)[10*k+i]?=(f ps[k])[i]?
 | p :: ps,0,_,i,hi=>by
  rw[List.flatMap_cons,List.getElem?_append_left (by rw[hf];omega)]
  simp
 | p :: ps,k+1,hk,i,hi=>by
  rw[List.flatMap_cons,List.getElem?_append_right (by rw[hf];omega),hf,show 10*(k+1)+i - 10=10*k+i by omega,flat10 f hf ps k (by simpa using hk) i hi];rfl
def CelsV (w:World)(cs:List Cmd)(svs:List Value):Prop:=svs.length=cs.length∧∀ i (h:i < cs.length)(h2:i < svs.length),∃ A k,svs[i]=.slice A cs[i].cells.length k∧Cls w A cs[i].cells
theorem CelsV.ext {w w':World}{cs:List Cmd}{svs:List Value}(h:CelsV w cs svs)(hb:Below w.heap.size w w'):CelsV w' cs svs:=by
 refine⟨h.1,fun i h1 h2=>?_⟩;obtain⟨A,k,e,h3⟩:=h.2 i h1 h2;exact⟨A,k,e,h3.ext hb⟩
theorem CelsV.nil (w:World):CelsV w [] []:=⟨rfl,fun i h=>absurd h (Nat.not_lt_zero _)⟩
theorem CelsV.snoc {w:World}{cs:List Cmd}{svs:List Value}(h:CelsV w cs svs){c:Cmd}{A:Option Addr}{k:Nat}(hc:Cls w A c.cells):CelsV w (cs ++ [c]) (svs ++ [.slice A c.cells.length k]):=by
 refine⟨by rw[List.length_append,List.length_append,h.1];rfl,fun i h1 h2=>?_⟩;by_cases hi:i < cs.length
 ·obtain⟨B,m,e,h3⟩:=h.2 i hi (by rw[h.1];exact hi);rw[List.getElem_append_left (by rw[h.1];exact hi),List.getElem_append_left hi];exact⟨B,m,e,h3⟩
 ·have hi2:i=cs.length:=by simp at h1;omega
  subst hi2;refine⟨A,k,?_,?_⟩
  ·rw[List.getElem_append_right (by rw[h.1];exact Nat.le_refl _)];simp[h.1]
  ·simpa using hc
def CmsA (w:World)(v:Value)(cs:List Cmd):Prop:=∃ A c svs,v=.slice A cs.length c∧CelsV w cs svs∧Reads w w.heap.size 10 A cs.length ((cs.zip svs).flatMap cmdCells)∧cs.length≤9223372036854775807
theorem CmsA.ext {w w':World}{v:Value}{cs:List Cmd}(h:CmsA w v cs)(hb:Below w.heap.size w w'):CmsA w' v cs:=by
 obtain⟨A,c,svs,e,h1,h2,h3⟩:=h;exact⟨A,c,svs,e,h1.ext hb,(Reads.below h2 hb).more hb.size,h3⟩
theorem CmsA.form {w:World}{v:Value}{cs:List Cmd}(h:CmsA w v cs):∃ A c,v=.slice A cs.length c:=by
 obtain⟨A,c,svs,e,-⟩:=h;exact⟨A,c,e⟩
theorem CmsA.le {w:World}{v:Value}{cs:List Cmd}(h:CmsA w v cs):cs.length≤9223372036854775807:=by
 obtain⟨A,c,svs,e,-,-,h3⟩:=h;exact h3
theorem CmsA.nil (w:World):CmsA w (.slice none 0 0) []:=⟨none,0,[],rfl,CelsV.nil w,Reads.none_,by simp⟩
theorem CmsA.at_ {w:World}{v:Value}{cs:List Cmd}{k:Nat}(h:CmsA w v cs)(hk:k < cs.length):∃ b o c A n,v=.slice (some ⟨b,o,none⟩) cs.length c∧b < w.heap.size∧Cls w A cs[k].cells∧
  w.cell? ⟨b,o+k*10,none⟩=some (.int .i64 cs[k].kind)∧w.cell? ⟨b,o+k*10+1,none⟩=some (.int .i64 cs[k].x)∧w.cell? ⟨b,o+k*10+2,none⟩=some (.int .i64 cs[k].y)∧w.cell? ⟨b,o+k*10+3,none⟩=some (.int .i64 cs[k].n)∧w.cell? ⟨b,o+k*10+4,none⟩=some (.int .i64 cs[k].m)∧
  w.cell? ⟨b,o+k*10+5,none⟩=some (.string (nmV cs[k]))∧w.cell? ⟨b,o+k*10+6,none⟩=some (.slice A cs[k].cells.length n)∧w.cell? ⟨b,o+k*10+7,none⟩=some (.int .i64 cs[k].p)∧w.cell? ⟨b,o+k*10+8,none⟩=some (.int .i64 cs[k].dx)∧w.cell? ⟨b,o+k*10+9,none⟩=some (.int .i64 cs[k].dy):=by
 obtain⟨A,c,svs,e,h1,h2,h3⟩:=h;obtain⟨ad,rfl,hb,hc⟩:=h2.2 (by omega);have hz:(cs.zip svs).length=cs.length:=by rw[List.length_zip,h1.1];omega
 have f0:=flat10 cmdCells (fun _=>rfl) (cs.zip svs) 0 (by omega) 0 (by omega);have h0:=hc _ _ f0;obtain⟨b,o,sp⟩:=ad;obtain rfl:=spot_none h0;have hsv:k < svs.length:=by rw[h1.1];exact hk
 have hzk:(cs.zip svs)[k]'(by omega)=(cs[k],svs[k]):=List.getElem_zip;obtain⟨B,n,e6,hcl⟩:=h1.2 k hk hsv;have g:∀ i,i < 10→∀ u,(cmdCells (cs[k],svs[k]))[i]?=some u→w.cell? ⟨b,o+k*10+i,none⟩=some u:=fun i hi u hu=>by
  have:=hc _ _ ((flat10 cmdCells (fun _=>rfl) (cs.zip svs) k (by omega) i hi).trans (by rw[hzk];exact hu));rw[addr_add] at this;rw[← this,show o+k*10+i=o+(10*k+i) by omega]
 exact⟨b,o,c,B,n,e,hb,hcl,g 0 (by omega) _ rfl,g 1 (by omega) _ rfl,g 2 (by omega) _ rfl,g 3 (by omega) _ rfl,g 4 (by omega) _ rfl,g 5 (by omega) _ rfl,g 6 (by omega) _ (by rw[← e6];rfl),g 7 (by omega) _ rfl,g 8 (by omega) _ rfl,g 9 (by omega) _ rfl⟩
def OwnK (w:World)(base:Nat)(v:Value)(cs:List Cmd):Prop:=∃ svs,CelsV w cs svs∧w.ownsRow base 34 10 v cs.length ((cs.zip svs).flatMap cmdCells)∧∀ sv ∈ svs,∀ ad n k,sv=.slice (some ad) n k→n≠0→v.ownBlock≠some ad.block∧ad.block < w.heap.size
theorem OwnK.nil (w:World)(base:Nat):OwnK w base (.slice none 0 0) []:=⟨[],CelsV.nil w,World.ownsRow_nil _ _ _ _,fun sv h=>by cases h⟩
theorem OwnK.ext {w w':World}{base:Nat}{v:Value}{cs:List Cmd}(h:OwnK w base v cs)(hb:Below w.heap.size w w'):OwnK w' base v cs:=by
 obtain⟨svs,h1,h2,h3⟩:=h;exact⟨svs,h1.ext hb,own_below h2 hb,fun sv hs ad n k e h0=>⟨(h3 sv hs ad n k e h0).1,Nat.lt_of_lt_of_le (h3 sv hs ad n k e h0).2 hb.size⟩⟩
theorem OwnK.cms {w:World}{base:Nat}{v:Value}{cs:List Cmd}(h:OwnK w base v cs):CmsA w v cs:=by
 obtain⟨svs,h1,h2,-⟩:=h;obtain⟨A,c,e,h3,-⟩:=own_form h2;exact⟨A,c,svs,e,h1,h3.1,h3.2⟩
theorem OwnK.blk_lt {w:World}{base:Nat}{v:Value}{cs:List Cmd}(h:OwnK w base v cs){g:Nat}(hg:v.ownBlock=some g):g < w.heap.size:=by
 obtain⟨svs,h1,h2,-⟩:=h;rcases h2.2 with ⟨rfl,_⟩ | ⟨g',cap,cur,rfl,h4,h5,_⟩
 ·simp[Value.ownBlock] at hg
 ·simp[Value.ownBlock] at hg;subst hg;rcases Nat.lt_or_ge g' w.heap.size with hlt | hge
  ·exact hlt
  ·rw[Array.getElem?_eq_none hge] at h5;cases h5
theorem Tryz.infoCommand:(Tryz.prog.info? 34).map (fun i=>(i.zero,i.size,i.bytes))=some (some (.agg #[.int .i64 0,.int .i64 0,.int .i64 0,.int .i64 0,.int .i64 0,.string ⟨#[]⟩,.slice none 0 0,.int .i64 0,.int .i64 0,.int .i64 0]),10,104):=by kernel_rfl
theorem Reads.grown56 {w w':World}{B size n:Nat}{A:Option Addr}{xs:List Value}(h:Reads w B size A n xs){row:Option Nat}(hg:w.grownBy w' row)(hB:B≤w.heap.size)(hr:∀ ad,A=some ad→row≠some ad.block):Reads w' B size A n xs:=by
 refine⟨h.1,fun h0=>?_⟩;obtain⟨ad,e,hb,hc⟩:=h.2 h0;refine⟨ad,e,hb,fun k u hu=>?_⟩;rw[← hc k u hu];refine World.cell?_of_block ?_;rw[block_of_add];exact hg.block _ (by omega) (fun e2=>hr ad e (by rw[e2]))
theorem wpList_pushK {wr:World}{ops:Array Oper}{rest:List Oper}{o:Oper}{a:Act}{Q:Exit→Act→World→Prop}(hgd:o.guard=none)(s x:Operand)(t:TypeId)
  (ho:o.op=.call { callee:=.builtin .append,args:=#[s,x],argTypes:=#[t,t] })
  (base:Nat) (ht:Tryz.prog.underlying t=some (.slice 34))
  (v:Value) (cs:List Cmd) (hs:a.eval s=v) (hown:OwnK wr base v cs)
  (c:Cmd) (A:Option Addr) (k:Nat) (hc:Cls wr A c.cells) (hA:∀ ad,A=some ad→v.ownBlock≠some ad.block) (hx:a.eval x=.slice (some ⟨wr.heap.size,0,none⟩) 1 1)
  (hn:cs.length < 4294967296) (hbase:base≤wr.heap.size)
  (h:∀ v' w',OwnK w' base v' (cs ++ [c])→Below base wr w'→wpList Tryz.prog ops Q rest (a.put o.dst v') w') :
  wpList Tryz.prog ops Q (o :: rest) a (wr.alloc (.cells #[.int .i64 c.kind,.int .i64 c.x,.int .i64 c.y,.int .i64 c.n,.int .i64 c.m,.string (nmV c),.slice A c.cells.length k,.int .i64 c.p,.int .i64 c.dx,.int .i64 c.dy] 34)):=by
 obtain⟨svs,h1,h2,hS⟩:=hown;obtain⟨i0,hi0,hz0,hz1,hz2⟩:=info_parts Tryz.infoCommand;have hnb:=below_new wr (.cells #[.int .i64 c.kind,.int .i64 c.x,.int .i64 c.y,.int .i64 c.n,.int .i64 c.m,.string (nmV c),.slice A c.cells.length k,.int .i64 c.p,.int .i64 c.dx,.int .i64 c.dy] 34);have hrd:Reads (wr.alloc (.cells #[.int .i64 c.kind,.int .i64 c.x,.int .i64 c.y,.int .i64 c.n,.int .i64 c.m,.string (nmV c),.slice A c.cells.length k,.int .i64 c.p,.int .i64 c.dx,.int .i64 c.dy] 34)) (wr.heap.size+1) 10 (some ⟨wr.heap.size,0,none⟩) 1 (cmdCells (c,.slice A c.cells.length k)):=by
  refine⟨rfl,fun _=>⟨_,rfl,by simp,fun j u hu=>?_⟩⟩;rw[addr_add,Nat.zero_add];have:=(Blk.new wr 34 #[.int .i64 c.kind,.int .i64 c.x,.int .i64 c.y,.int .i64 c.n,.int .i64 c.m,.string (nmV c),.slice A c.cells.length k,.int .i64 c.p,.int .i64 c.dx,.int .i64 c.dy]).cell j;rw[this];rw[← hu];simp[cmdCells]
 refine wpList_append_any _ hgd s x t ho base 34 i0 _ 10 104 ht hi0 hz0 hz1 hz2 rfl (by decide) v cs.length _ hs (own_below h2 hnb) _ _ 1 1 _ hx hrd (by simp[cmdCells,Value.oneCell']) (by unfold maxLen;omega) (by omega) (by simp;omega) ?_;intro v' w' h3 hg hv;have hvl:∀ g,v.ownBlock=some g→g < wr.heap.size:=fun g hg=>OwnK.blk_lt ⟨svs,h1,h2,hS⟩ hg;have key:∀ ad:Addr,v.ownBlock≠some ad.block→ad.block < wr.heap.size→v'.ownBlock≠some ad.block∧ad.block < w'.heap.size:=by
  intro ad h5 h6;refine⟨?_,by have:=hg.size;simp at this;omega⟩;rcases hv with hv | hv
  ·rw[hv];exact h5
  ·rw[hv];intro e;injection e with e
   simp at e;omega
 have cl:∀ (B:Option Addr) (ps:List Cel),Cls wr B ps→(ps.length≠0→∀ ad,B=some ad→v.ownBlock≠some ad.block)→Cls w' B ps:=by
  intro B ps h5 h6;have h7:=h5.ext hnb;by_cases h0:ps.length=0
  ·exact⟨⟨h7.1.1,fun h=>absurd h (by omega)⟩,h7.2⟩
  ·exact⟨(h7.1.grown56 hg (Nat.le_refl _) (h6 h0)).more hg.size,h7.2⟩
 refine h v' w' ⟨svs ++ [.slice A c.cells.length k],?_,?_,?_⟩ ?_
 ·refine CelsV.snoc (c:=c) ⟨h1.1,fun i hi hi2=>?_⟩ (cl A c.cells hc fun _ ad e=>hA ad e);obtain⟨B,m,e,h5⟩:=h1.2 i hi hi2;refine⟨B,m,e,cl B _ h5 fun h0 ad e2=>?_⟩;subst e2;exact (hS _ (List.getElem_mem hi2) ad _ _ e h0).1
 ·rw[List.length_append,List.zip_append (by rw[h1.1]),List.flatMap_append];exact h3
 ·intro sv hsv ad n k2 e h0;rcases List.mem_append.1 hsv with hsv | hsv
  ·have:=hS sv hsv ad n k2 e h0;exact key ad this.1 this.2
  ·rw[List.mem_singleton.1 hsv] at e;injection e with e1 e2 e3
   have h5:=hA ad e1;refine key ad h5 ?_;obtain⟨b,o,e6,hbl,-⟩:=hc.at_ (k:=0) (by omega);rw[e1] at e6;injection e6 with e6
   rw[e6];exact hbl
 ·have hbr:∀ g,v.ownBlock=some g→base≤g:=by
   intro g hg2;rcases h2.2 with ⟨rfl,_⟩ | ⟨g',cap,cur,rfl,h4,h5,_⟩
   ·simp[Value.ownBlock] at hg2
   ·simp[Value.ownBlock] at hg2;omega
  exact⟨hg.os,hg.tape,hg.output,by have:=hg.size;simp at this;omega,fun j hj=>(hg.block j (by simp;omega) (fun e=>by have:=hbr j e.symm;omega)).trans (hnb.block j (by omega))⟩
def linesP (s:List UInt8):List (List UInt8):=if (splitC 10 s).getLast?=some [] then (splitC 10 s).dropLast else splitC 10 s
def cmdL (l:List UInt8):Option (Cmd × Int):=if wordsOf l=[] then none else match formOf (wordsOf l) with
 | none=>some (cmd0,15)
 | some f=>some (cmdP f (wordsOf l))
def runS:Nat→List Cmd→List (List UInt8)→List Cmd × Int × Int
 | i,a,[]=>(a,0,0)
 | i,a,l :: ls=>match cmdL l with
  | none=>runS (i+1) a ls
  | some (c,e)=>if e≠0 then ([],i+1,e) else runS (i+1) (a ++ [c]) ls
def scrP (s:List UInt8):List Cmd × Int × Int:=if 65536 < s.length then ([],0,6) else if 200 < (linesP s).length then ([],0,6) else runS 0 [] (linesP s)
theorem splitC_neS (c:UInt8)(l:List UInt8):splitC c l≠[]:=by
 cases l with
 | nil=>simp[splitC]
 | cons a l=>
  rw[splitC]
  split
  ·simp
  ·split <;> simp
theorem splitC_feed (c:UInt8):∀ a b:List UInt8,splitC c (a ++ c :: b)=splitC c a ++ splitC c b
 | [],b=>by
  show splitC c (c :: b)=[] :: splitC c b;rw[splitC,if_pos rfl]
 | x :: a,b=>by
  rw[List.cons_append,splitC,splitC,splitC_feed c a b];by_cases h:x=c
  ·rw[if_pos h,if_pos h];rfl
  ·rw[if_neg h,if_neg h];cases e:splitC c a with
   | nil=>exact absurd e (splitC_neS c a)
   | cons p ps=>rfl
theorem splitC_oneS (c:UInt8):∀ {p:List UInt8},c ∉ p→splitC c p=[p]
 | [],_=>rfl
 | x :: a,h=>by
  rw[splitC,if_neg (fun e=>h (by rw[e];exact List.mem_cons_self)),splitC_oneS c (fun hm=>h (List.mem_cons_of_mem _ hm))]
def feeds (s:List UInt8):Nat:=s.countP (· == 10)
theorem split_feeds:∀ s:List UInt8,(splitC 10 s).length=feeds s+1
 | []=>rfl
 | a :: l=>by
  have ih:=split_feeds l;unfold feeds at ih ⊢;rw[splitC,List.countP_cons];by_cases h:a=10
  ·rw[if_pos h,List.length_cons,ih,h];rfl
  ·rw[if_neg h,if_neg (by simpa using h)];cases e:splitC 10 l with
   | nil=>exact absurd e (splitC_neS 10 l)
   | cons p ps=>rw[e] at ih;exact ih
theorem getLast?_app {α:Type} (a:List α){b:List α}(h:b≠[]):(a ++ b).getLast?=b.getLast?:=by
 rw[List.getLast?_append];cases e:b.getLast? with
 | none=>exact absurd (List.getLast?_eq_none_iff.1 e) h
 | some x=>rfl
theorem linesP_feed (a b:List UInt8):linesP (a ++ 10 :: b)=splitC 10 a ++ linesP b:=by
 unfold linesP;rw[splitC_feed,getLast?_app _ (splitC_neS 10 b)]
 split
 ·rw[List.dropLast_append_of_ne_nil (splitC_neS 10 b)]
 ·rfl
theorem linesP_nil:linesP []=[]:=rfl
theorem linesP_front (a:List UInt8):linesP (a ++ [10])=splitC 10 a:=by rw[linesP_feed,linesP_nil,List.append_nil]
theorem splitC_snoc (c:UInt8){a:UInt8}(h:a≠c):∀ t:List UInt8,∃ ps q,splitC c t=ps ++ [q]∧splitC c (t ++ [a])=ps ++ [q ++ [a]]
 | []=>⟨[],[],rfl,by rw[List.nil_append,splitC,if_neg h];rfl⟩
 | x :: t=>by
  obtain⟨ps,q,h1,h2⟩:=splitC_snoc c h t;rw[List.cons_append,splitC,splitC,h1,h2];by_cases hx:x=c
  ·rw[if_pos hx,if_pos hx];exact⟨[] :: ps,q,rfl,rfl⟩
  ·rw[if_neg hx,if_neg hx];cases ps with
   | nil=>exact⟨[],x :: q,rfl,rfl⟩
   | cons p ps=>exact⟨(x :: p) :: ps,q,rfl,rfl⟩
theorem linesP_no {t:List UInt8}{a:UInt8}(h:a≠10):linesP (t ++ [a])=splitC 10 (t ++ [a]):=by
 obtain⟨ps,q,h1,h2⟩:=splitC_snoc 10 h t;unfold linesP;rw[h2,List.getLast?_concat,if_neg];intro e;injection e with e
 simp at e
theorem text_len56 {ps:List Cel}{rule:List UInt8}(h:(textL ps rule).2=0):(textL ps rule).1.length≤65536:=by
 unfold textL at *;by_cases h1:rightC ps=false
 ·rw[if_pos h1] at h;cases h
 rw[if_neg h1] at h ⊢;by_cases h2:nameB rule=false
 ·rw[if_pos h2] at h;cases h
 rw[if_neg h2] at h ⊢;by_cases h3:1048577 < (boxC ps).1.w∨1048577 < (boxC ps).1.h
 ·rw[if_pos h3] at h;cases h
 rw[if_neg h3] at h ⊢;by_cases h4:65536 < (fullT ps rule).length
 ·rw[if_pos h4] at h;cases h
 rw[if_neg h4];exact Nat.not_lt.1 h4
theorem rgt_num:∀ (ss:List Slot)(c r r':Cmd),rgtTo ss c r=some r'→∀ s ∈ ss,s.k=4→s.lo≤c.get s.fld∧c.get s.fld≤s.hi
 | [],c,r,r',_,s,hs,_=>by cases hs
 | t :: ss,c,r,r',h,s,hs,h4=>by
  rw[rgtTo] at h;by_cases k1:t.k=1∨t.k=2
  ·rw[if_pos k1] at h;by_cases hb:badName t c.name=true
   ·rw[if_pos hb] at h;cases h
   ·rw[if_neg hb] at h;rcases List.mem_cons.1 hs with rfl | hs
    ·omega
    ·exact rgt_num ss c _ r' h s hs h4
  ·rw[if_neg k1] at h;by_cases k3:t.k=3
   ·rw[if_pos k3] at h;by_cases hb:homedB c.cells=true
    ·rw[if_pos hb] at h;rcases List.mem_cons.1 hs with rfl | hs
     ·omega
     ·exact rgt_num ss c _ r' h s hs h4
    ·rw[if_neg hb] at h;cases h
   ·rw[if_neg k3] at h;by_cases k4:t.k=4
    ·rw[if_pos k4] at h;by_cases hb:c.get t.fld < t.lo∨t.hi < c.get t.fld
     ·rw[if_pos hb] at h;cases h
     ·rw[if_neg hb] at h;rcases List.mem_cons.1 hs with rfl | hs
      ·exact⟨by omega,by omega⟩
      ·exact rgt_num ss c _ r' h s hs h4
    ·rw[if_neg k4] at h;rcases List.mem_cons.1 hs with rfl | hs
     ·exact absurd h4 k4
     ·exact rgt_num ss c _ r' h s hs h4
def slotIn (s:Slot):Bool:=decide (-1048576≤s.lo) && decide (s.hi≤1048576) && decide (s.text.length≤20)
theorem forms_in:(formsP.all fun f=>f.slots.all slotIn && decide (f.word.length≤20) && decide (f.slots.length≤10))=true:=by decide
theorem form_in {f:Form}(h:f ∈ formsP):(∀ s ∈ f.slots,-1048576≤s.lo∧s.hi≤1048576∧s.text.length≤20)∧f.word.length≤20∧f.slots.length≤10:=by
 have h2:=List.all_eq_true.1 forms_in f h;rw[Bool.and_eq_true,Bool.and_eq_true,decide_eq_true_eq,decide_eq_true_eq] at h2;refine⟨fun s hs=>?_,h2.1.2,h2.2⟩;have h3:=List.all_eq_true.1 h2.1.1 s hs;unfold slotIn at h3;rw[Bool.and_eq_true,Bool.and_eq_true,decide_eq_true_eq,decide_eq_true_eq,decide_eq_true_eq] at h3;exact⟨h3.1.1,h3.1.2,h3.2⟩
theorem kindF_mem {k:Int}{f:Form}(h:kindF k=some f):f ∈ formsP∧f.kind=k:=⟨List.mem_of_find?_eq_some h,by simpa using List.find?_some h⟩
theorem joinW_len:∀ (ws:List (List UInt8)) (m:Nat),(∀ w ∈ ws,w.length≤m)→(joinW ws).length≤ws.length*(m+1)
 | [],m,_=>Nat.zero_le _
 | w :: ws,m,h=>by
  have key:∀ (l:List (List UInt8)) (s:List UInt8),(∀ x ∈ l,x.length≤m)→(l.foldl (fun s x=>s ++ ([32] ++ x)) s).length≤s.length+l.length*(m+1):=by
   intro l;induction l with
   | nil=>intro s _;simp
   | cons x l ih=>
    intro s hx;rw[List.foldl_cons];have h1:=ih (s ++ ([32] ++ x)) (fun y hy=>hx y (List.mem_cons_of_mem _ hy));have h2:=hx x List.mem_cons_self;rw[List.length_append,List.length_append] at h1;rw[List.length_cons,Nat.succ_mul];have h3:([32]:List UInt8).length=1:=rfl;omega
  have h1:=key ws w (fun x hx=>h x (List.mem_cons_of_mem _ hx));have h2:=h w List.mem_cons_self;show (ws.foldl _ w).length≤_;rw[List.length_cons,Nat.succ_mul];omega
theorem runW_len (t:List UInt8):(runW t).length≤t.length:=by
 unfold runW afterLine;refine Nat.le_trans (List.length_filter_le _ _) ?_;rw[List.length_drop];omega
theorem line_words {c:Cmd}(hn:c.name.length≤65536):∀ (ss:List Slot)(a:List (List UInt8)),(∀ s ∈ ss,s.k=4→-9223372036854775808≤c.get s.fld∧c.get s.fld≤9223372036854775807)→(∀ s ∈ ss,s.text.length≤65536)→(∀ w ∈ a,w.length≤65536)→(∀ w ∈ (lineTo ss c a).1,w.length≤65536)∧(lineTo ss c a).1.length≤a.length+ss.length
 | [],a,_,_,ha=>⟨ha,Nat.le_refl _⟩
 | s :: ss,a,hg,hs,ha=>by
  have hg2:=fun x hx=>hg x (List.mem_cons_of_mem s hx);have h2:=fun x hx=>hs x (List.mem_cons_of_mem s hx);have h1:=hs s List.mem_cons_self;have step:∀ w:List UInt8,w.length≤65536→(∀ x ∈ (lineTo ss c (a ++ [w])).1,x.length≤65536)∧(lineTo ss c (a ++ [w])).1.length≤a.length+(s :: ss).length:=by
   intro w hw;have:=line_words hn ss (a ++ [w]) hg2 h2 (fun x hx=>by
    rcases List.mem_append.1 hx with hx | hx
    ·exact ha x hx
    ·rw[List.mem_singleton.1 hx];exact hw)
   refine⟨this.1,?_⟩;have h3:=this.2;rw[List.length_append] at h3;rw[List.length_cons];have h4:[w].length=1:=rfl;omega
  rw[lineTo]
  split
  ·exact step _ h1
  ·split
   ·exact step _ hn
   ·split
    ·split
     ·exact⟨fun w hw=>by simp at hw,by simp⟩
     ·rename_i he;exact step _ (Nat.le_trans (runW_len _) (text_len56 (by simpa using he)))
    ·split
     ·rename_i h4;have hg3:=hg s List.mem_cons_self h4;exact step _ (Nat.le_trans (Lib.itoa_length_le _ hg3.1 hg3.2) (by decide))
     ·have:=line_words hn ss a hg2 h2 ha;exact⟨this.1,by have:=this.2;rw[List.length_cons];omega⟩
theorem line_len {c:Cmd}(hn:c.name.length≤65536):(lineP c).1.length≤1000000:=by
 unfold lineP;by_cases hr:rightP c=false
 ·rw[if_pos hr];simp
 ·rw[if_neg hr];cases h:kindF c.kind with
  | none=>simp
  | some f=>
   dsimp only;have hf:=form_in (kindF_mem h).1;have hg:∀ s ∈ f.slots,s.k=4→-9223372036854775808≤c.get s.fld∧c.get s.fld≤9223372036854775807:=by
    intro s hs h4;unfold rightP at hr;rw[h] at hr;dsimp only at hr;cases hr2:rgtTo f.slots c { c with kind:=0 } with
    | none=>rw[hr2] at hr;exact absurd rfl hr
    | some r'=>
     have h1:=rgt_num _ _ _ _ hr2 s hs h4;have h2:=hf.1 s hs;omega
   have hw:=line_words hn f.slots [f.word] hg (fun s hs=>by have:=(hf.1 s hs).2.2;omega) (fun w hw=>by rw[List.mem_singleton.1 hw];have:=hf.2.1;omega)
   split
   ·simp
   ·have h1:=joinW_len (lineTo f.slots c [f.word]).1 65536 hw.1;have h2:=hw.2;have h3:[f.word].length=1:=rfl;have h4:=hf.2.2;have h5:(lineTo f.slots c [f.word]).1.length*(65536+1)≤11*(65536+1):=Nat.mul_le_mul_right _ (by omega);show (joinW _).length≤_;omega
def errT:List Cmd→Int
 | []=>0
 | c :: l=>if (lineP c).2≠0 then (lineP c).2 else errT l
def catT:List Cmd→List UInt8
 | []=>[]
 | c :: l=>(lineP c).1 ++ [10] ++ catT l
def textP (l:List Cmd):List UInt8 × Int:=if 200 < l.length then ([],6) else if errT l≠0 then ([],errT l) else if 65536 < (catT l).length then ([],6) else (catT l,0)
theorem catT_app:∀ a b:List Cmd,catT (a ++ b)=catT a ++ catT b
 | [],b=>rfl
 | c :: a,b=>by rw[List.cons_append,catT,catT,catT_app a b];simp only[List.append_assoc]
theorem catT_snoc {l:List Cmd}{k:Nat}(h:k < l.length):catT (l.take (k+1))=catT (l.take k) ++ ((lineP l[k]).1 ++ [10]):=by
 rw[List.take_succ_eq_append_getElem h,catT_app];show _ ++ ((lineP l[k]).1 ++ [10] ++ [])=_;rw[List.append_nil]
theorem errT_drop {l:List Cmd}{k:Nat}(h:k < l.length):errT (l.drop k)=if (lineP l[k]).2≠0 then (lineP l[k]).2 else errT (l.drop (k+1)):=by
 rw[List.drop_eq_getElem_cons h];rfl
theorem catT_mono {l:List Cmd}{k:Nat}(h:k≤l.length):(catT (l.take k)).length≤(catT l).length:=by
 conv=>rhs;rw[← List.take_append_drop k l]
 rw[catT_app,List.length_append];omega
theorem catT_len:∀ (l:List Cmd),(∀ c ∈ l,(lineP c).1.length≤1000000)→(catT l).length≤l.length*1000001
 | [],_=>Nat.zero_le _
 | c :: l,h=>by
  have h1:=catT_len l (fun x hx=>h x (List.mem_cons_of_mem _ hx));have h2:=h c List.mem_cons_self;rw[catT];simp only[List.length_append,List.length_cons,List.length_nil];omega
end Go.Proofs.YtcfelnhmifkelaaGreatDoor
