/-
  texts Open Laid OpenT RDecP: parts of the proof; conditions stand with each theorem.
-/
import Derived.Test.YtlegfdllipkggaaGreatDoorWG5
import Derived.Test.YtlegfdllipkggaaGreatDoorWG8
import Derived.Test.YtlegfdllipkggaaGreatDoorRows
import Derived.WalkKit
import Derived.ProofKit
import Derived.OpenShut
import Derived.HandedShaped
import Derived.Shelf.Vars
import Derived.Lib.SmallJoins
import Derived.Lib.LaidTab
import Derived.Stop.LaidErr
import Derived.Laws.IdiomArrays
import Derived.Deep.SlicePairs
import Derived.MakeChecks
import Derived.Below
import Derived.ChangeSame
import Derived.LaidMore
import Derived.Lay
import Derived.Deep.DeepHandedRow
import Derived.Test.YtlegfdllipkggaaGreatDoorWG6
import Derived.Test.YtlegfdllipkggaaGreatDoorWG15
import Derived.Test.YtlegfdllipkggaaGreatDoorWG19
namespace Go.Proofs.YtlegfdllipkggaaGreatDoor
set_option linter.unusedSimpArgs false
open Go.ChangeShapes Go.WideShapes Go.ChangeAt Go.RowKit Go.Deep
set_option maxRecDepth 100000
set_option linter.unusedVariables false

section
variable {H : Type} {enc : TypeId × Value → H} {P : Program}
theorem post_of_below {f:Func}{s:ChangeSpec}{apart fresh handsOn again:Bool}{W W':World}{args:Array Value}{v:Value}{ds gs:List (DataW H)}{before pa pv:List MemPlace}
  (hW:DataW.Whole enc P f.params.toList s.vars apart W args.toList ds gs before)
  (hres:∀ (b:Nat) (sp:Nat→Bool) (hd:Bool),DataW.TrodAll enc P W' b sp hd f.resultTypes.toList (v.resultList f.resultTypes.size) (s.fn H (ds ++ gs)).results [])
  (hargs:∀ sp:Nat→Bool,(∀ p ∈ before,sp p.block=true)→DataW.TrodAll enc P W' 0 sp true f.params.toList args.toList (s.fn H (ds ++ gs)).args pa)
  (hvars:∀ sp:Nat→Bool,(∀ p ∈ before,sp p.block=true)→DataW.TrodVars enc P W' sp s.vars (s.fn H (ds ++ gs)).vars pv)
  (hps:before=pa ++ pv) (hb:Below W.heap.size W W')
  (hok:∀ (j:Nat) (t:TypeId) (r:Value),f.resultTypes[j]?=some t→(v.resultList f.resultTypes.size)[j]?=some r→Value.okWide P W' .any 0 t r) :
  s.post enc P f apart fresh handsOn again W args v W':=by
 have hlt:∀ p ∈ before,p.block < W.heap.size:=fun p hp=>hW.lt p hp;have hold:∀ p ∈ before,(fun b=>decide (b < W.heap.size)) p.block=true:=fun p hp=>by simpa using hlt p hp
 refine⟨ds,gs,before,[],pa,pv,hW,hres _ _ _,hargs _ hold,hvars _ hold,World.keptBut_mono (fun p hp=>⟨hp,?_⟩) (hb.frame (· ∈ before)),fun _=>?_⟩
 ·rw[hps,List.mem_append] at hp;exact Or.inr hp
 ·obtain⟨_,_,_,_,_,hz,hn⟩:=hW;refine⟨hok,_,_,([] ++ pa) ++ pv,⟨[] ++ pa,pv,trodAll_append (hargs _ (fun _ _=>rfl)) (hres _ _ _),hvars _ (fun _ _=>rfl),rfl,?_,?_⟩,?_⟩
  ·intro b off hp;have hin:MemPlace.cell b off ∈ before:=by rw[hps];simpa using hp
   rw[hb.frozen (hlt _ hin)];exact hz b off hin
  ·intro ha;have:=hn ha;rw[hps] at this;simpa using this
  ·intro p hp _;rw[hps];simpa using hp
end
theorem Tryz.cellsInt:Tryz.prog.cellsOf 3=1:=by kernel_rfl
theorem Tryz.cellsPt:Tryz.prog.cellsOf 56=2:=by kernel_rfl
theorem Tryz.cellsIntsT:Tryz.prog.cellsOf 38=1:=by kernel_rfl
theorem Tryz.laidOut_:laidOutB Tryz.prog=true:=by kernel_rfl
theorem flat_len:∀ ps:List (Int × Int),(ps.flatMap ptCells).length=ps.length*2
 | []=>rfl
 | p :: r=>by rw[List.flatMap_cons,List.length_append,flat_len r];simp[ptCells];omega
section
variable {H : Type} {enc : TypeId × Value → H} {W : World}
theorem open_Ints {n:Nat}{v:Value}{x:DataW H × List MemPlace}(h:DataW.trod enc Tryz.prog W 0 (fun _=>true) true n 38 [v]=some x):∃ A c zs,v=.slice A (zs:List Int).length c∧Ints W A zs:=by
 rcases open_ints Tryz.underlying38 Tryz.underlying3 Tryz.cellsInt h with ⟨hcs,-⟩ | ⟨a,len,cap,zs,hcs,-,hl,hm,hz,-,hc,-⟩
 ·injection hcs with hcs
  exact⟨none,0,[],hcs,Ints.nil⟩
 ·injection hcs with hcs
  have hz':zs.length=cap:=by rw[hz];rfl
  refine⟨some a,cap,zs.take len,?_,⟨?_,fun hn=>⟨a,rfl,?_,fun j u hu=>?_⟩⟩,?_⟩
  ·rw[hcs,List.length_take,Nat.min_eq_left (by omega)]
  ·simp
  ·have h0:=hc 0 (by rw[List.length_take] at hn;omega);exact World.block_lt_of_cell? _ _ h0
  ·have hj:j < len:=by
    have:=(List.getElem?_eq_some_iff.1 hu).1;simp at this;omega
   have h1:=hc j (by omega);rw[h1];rw[List.getElem?_map,List.getElem?_take_of_lt hj,List.getElem?_eq_getElem (by omega)] at hu;have hj2:j < zs.length:=by omega
   simp[List.getD,List.getElem?_eq_getElem hj2] at hu ⊢;exact hu
  ·rw[List.length_take];unfold maxLen at hm;omega
theorem open_Pts {n:Nat}{v:Value}{x:DataW H × List MemPlace}(h:DataW.trod enc Tryz.prog W 0 (fun _=>true) true n 22 [v]=some x):∃ A c ps,v=.slice A (ps:List (Int × Int)).length c∧Pts W A ps:=by
 rcases open_slice_pairs Tryz.underlying22 Tryz.underlying56 Tryz.cellsPt rfl rfl Tryz.cellsInt Tryz.cellsInt h with ⟨hcs,-⟩ | ⟨a,len,cap,m,k,V0,V1,D0,D1,P0,P1,hcs,-,hl,hm,hmm,-,hx⟩
 ·injection hcs with hcs
  exact⟨none,0,[],hcs,Pts.nil⟩
 ·injection hcs with hcs
  have hmc:m=cap:=by rw[hmm];rfl
  have hx':∀ i,i < len→∃ p q:Int,W.cell? (a.add (i*2))=some (.int .i64 p)∧W.cell? (a.add (i*2+1))=some (.int .i64 q):=by
   intro i hi;obtain⟨g0,g1,d0,d1⟩:=hx i (by omega);obtain⟨p,e0,-,-⟩:=DataW.trod_int Tryz.underlying3 d0;obtain⟨q,e1,-,-⟩:=DataW.trod_int Tryz.underlying3 d1;injection e0 with e0
   injection e1 with e1
   rw[e0] at g0;rw[e1] at g1;exact⟨p,q,g0,g1⟩
  obtain⟨F,hF⟩:∃ F:Nat→Int × Int,∀ i,i < len→W.cell? (a.add (i*2))=some (.int .i64 (F i).1)∧W.cell? (a.add (i*2+1))=some (.int .i64 (F i).2):=by
   refine⟨fun i=>if hi:i < len then ⟨Classical.choose (hx' i hi),Classical.choose (Classical.choose_spec (hx' i hi))⟩ else (0,0),fun i hi=>?_⟩;simp only[hi,dif_pos];exact Classical.choose_spec (Classical.choose_spec (hx' i hi))
  refine⟨some a,cap,(List.range len).map F,?_,⟨?_,fun hn=>⟨a,rfl,?_,fun j u hu=>?_⟩⟩,?_⟩
  ·rw[hcs,List.length_map,List.length_range]
  ·rw[flat_len]
  ·have h0:=(hF 0 (by simpa using hn)).1;exact World.block_lt_of_cell? _ _ h0
  ·have hj:j < len*2:=by
    have:=(List.getElem?_eq_some_iff.1 hu).1;rw[flat_len] at this;simpa using this
   have hi:j / 2 < ((List.range len).map F).length:=by simp;omega
   obtain⟨f0,f1⟩:=flat2 ((List.range len).map F) (j / 2) hi;obtain⟨g0,g1⟩:=hF (j / 2) (by omega);have hg:((List.range len).map F)[j / 2]=F (j / 2):=by simp
   rw[hg] at f0 f1;rcases Nat.mod_two_eq_zero_or_one j with h2 | h2
   ·have ej:j=2*(j / 2):=by omega
    rw[ej] at hu ⊢;rw[f0] at hu;rw[Nat.mul_comm,g0];exact hu
   ·have ej:j=2*(j / 2)+1:=by omega
    rw[ej] at hu ⊢;rw[f1] at hu;rw[Nat.mul_comm,g1];exact hu
  ·rw[List.length_map,List.length_range];unfold maxLen at hm;omega
end
theorem tab_of {w:World}(hL:laidMetH Tryz.prog Rows.tabletreeTreesRow.laid w):TabB w.heap.size w:=by
 rw [MakeChecks.laidMetH_plain _ _ _ (by kernel_rfl)] at hL; have h3 : laidMet Tryz.prog [("internal/strconv.uint64pow10", Rows.laid_internal_strconv_uint64pow10), ("cellular/symmetry.matrices", Rows.laid_cellular_symmetry_matrices)] w := hL.tail.tail; exact Lib.tabBelow_of_tabIs (Lib.tabIs_of_head (g := 1) (t := 140) (e := 129) (by kernel_rfl) (by kernel_rfl) Tryz.underlying140 Tryz.underlying129 (by kernel_rfl) (by kernel_rfl) h3)
theorem Tryz.cellsRow:Tryz.prog.cellsOf 127=4:=by kernel_rfl
theorem Tryz.cellsMat:Tryz.prog.cellsOf 128=32:=by kernel_rfl
theorem mat_data {H:Type}:(Rows.laid_cellular_symmetry_matrices:DataW H)=.agg ((List.range 8).map fun i=>.agg ((List.range 4).map fun j=>.lit (.int .i64 (matL.getD (i*4+j) 0)))):=rfl
theorem gmat_of {w:World}(hL:laidMetH Tryz.prog Rows.tabletreeTreesRow.laid w):GMat w:=by
 rw [MakeChecks.laidMetH_plain _ _ _ (by kernel_rfl)] at hL; have h3 : laidMet Tryz.prog [("cellular/symmetry.matrices", Rows.laid_cellular_symmetry_matrices)] w := hL.tail.tail.tail; obtain ⟨ps, ⟨g', t', cs, fuel, p, q, hg', ht', hvar, hd, -, -⟩, -⟩ := h3; have hg : Tryz.prog.globalNamed "cellular/symmetry.matrices" = some 0 := by kernel_rfl
 obtain rfl:=Option.some.inj (hg.symm.trans hg');have hty:(Tryz.prog.globals[0]?).map (·.type)=some 128:=by kernel_rfl
 obtain rfl:=Option.some.inj (hty.symm.trans ht');obtain⟨xs,m,-,hx,hlen,hxl,hel⟩:=DataW.trod_array Tryz.underlying128 hd;rw[Tryz.cellsMat] at hlen;rw[mat_data] at hx;have hx1:xs.map (·.1)=(List.range 8).map fun i=>(.agg ((List.range 4).map fun j=>.lit (.int .i64 (matL.getD (i*4+j) 0))):DataW Unit):=by
  injection hx with hx hx'
  injection hx with hx
  exact hx.symm
 have key:∀ i,i < 8→∀ j,j < 4→cs[i*4+j]?=some (.int .i64 (matL.getD (i*4+j) 0)):=by
  intro i hi j hj;have h1:=hel i hi;rw[Tryz.cellsRow] at h1;obtain⟨x,hxi⟩:∃ x,xs[i]?=some x:=⟨xs[i]'(by omega),List.getElem?_eq_getElem (by omega)⟩
  rw[hxi] at h1;have hxd:x.1=.agg ((List.range 4).map fun j=>.lit (.int .i64 (matL.getD (i*4+j) 0))):=by
   have:=congrArg (·[i]?) hx1;simp only[List.getElem?_map,hxi,List.getElem?_range hi,Option.map_some,Option.some.injEq] at this;exact this
  obtain⟨ys,m2,-,hy,hylen,hyl,hey⟩:=DataW.trod_array Tryz.underlying127 h1;have h2:=hey j hj;rw[Tryz.cellsInt] at h2;obtain⟨y,hyi⟩:∃ y,ys[j]?=some y:=⟨ys[j]'(by omega),List.getElem?_eq_getElem (by omega)⟩
  rw[hyi] at h2;have hy1:ys.map (·.1)=(List.range 4).map fun j=>(.lit (.int .i64 (matL.getD (i*4+j) 0)):DataW Unit):=by
   have:=congrArg Prod.fst hy;rw[hxd] at this;injection this with this
   exact this.symm
  have hyd:y.1=.lit (.int .i64 (matL.getD (i*4+j) 0)):=by
   have:=congrArg (·[j]?) hy1;simp only[List.getElem?_map,hyi,List.getElem?_range hj,Option.map_some,Option.some.injEq] at this;exact this
  obtain⟨z,e1,e2,-⟩:=DataW.trod_int Tryz.underlying3 h2;rw[e2] at hyd;injection hyd with hyd
  injection hyd with _ hyd
  have:=congrArg (·[0]?) e1;simp only[List.getElem?_take,List.getElem?_drop,List.getElem?_cons_zero] at this;rw[← hyd];simpa [hj] using this
 have hcell:=World.var?_cell hg hvar;have h0:w.cell? ⟨0,0,none⟩=some (.int .i64 (matL.getD 0 0)):=by
  rw[hcell 0];simpa using key 0 (by omega) 0 (by omega)
 refine⟨World.block_lt_of_cell? _ _ h0,fun i hi=>?_⟩;rw[hcell i];have:=key (i / 4) (by omega) (i % 4) (by omega);rw[show i / 4*4+i % 4=i by omega] at this;simpa using this
end Go.Proofs.YtlegfdllipkggaaGreatDoor
namespace Go.Proofs.YtlegfdllipkggaaGreatDoor
set_option linter.unusedSimpArgs false
set_option linter.unusedVariables false
open Go.ChangeShapes Go.WideShapes Go.ChangeAt Go.RowKit
set_option maxRecDepth 1000000

noncomputable def laidW (os:Os):World:=World.laidAll Tryz.prog os Rows.tabletreeTreesRow.laid
theorem laidW_os (os:Os):(laidW os).os=os:=World.laidAll_os _ _ _
theorem laidW_shaped (os:Os)(args:Array Value):((laidW os).forCall (fun _ _=>0) ⟨#[],args,[]⟩).Shaped Tryz.prog:=World.shaped_of_ZipB (by kernel_rfl) (by kernel_rfl)
theorem laidW_met (os:Os)(args:Array Value):laidMetH Tryz.prog Rows.tabletreeTreesRow.laid ((laidW os).forCall (fun _ _=>0) ⟨#[],args,[]⟩).memory:=by
 rw[MakeChecks.laidMetH_plain _ _ _ (by kernel_rfl)];exact laidMet_laidAll _ (by kernel_rfl) (by kernel_rfl)
theorem laidW_witness {H:Type}{enc:TypeId × Value→H}{f:FuncId}{fn:Func}{s:OpenSpec}{conds:List PathCond}{apart:Bool}(os:Os)(args:Array Value)
  (hok:Input.okWideB Tryz.checked.prog ((laidW os).forCall (fun _ _=>0) ⟨#[],args,[]⟩) f ⟨#[],args,[]⟩=true)
  (hrow:s.preRow enc Tryz.checked.prog fn conds apart Rows.tabletreeTreesRow.laid ((laidW os).forCall (fun _ _=>0) ⟨#[],args,[]⟩).memory args) :
  ∃ (w:World) (tape:Tape) (i:Input),w.os=os∧(w.forCall tape i).Shaped Tryz.checked.prog∧i.vars=[]∧Input.okWide Tryz.checked.prog (w.forCall tape i) .any w.heap.size f i∧
   s.preRow enc Tryz.checked.prog fn conds apart Rows.tabletreeTreesRow.laid (w.forCall tape i).memory i.args∧({}:Assume).holds Tryz.checked.prog (lone (Frame.enter Tryz.checked.prog f i.args .normal) [] (w.forCall tape i)):=
 ⟨laidW os,fun _ _=>0,⟨#[],args,[]⟩,laidW_os os,laidW_shaped os args,(Input.okWide_of_okWideB (base:=0) hok).1,(Input.okWide_of_okWideB hok).2,hrow,by
  simp only[Assume.holds];exact⟨by simp,by simp,fun _=>Modest.zero,by simp,by simp⟩⟩
end Go.Proofs.YtlegfdllipkggaaGreatDoor
namespace Go.Proofs.YtlegfdllipkggaaGreatDoor
set_option linter.unusedSimpArgs false
open Go.ChangeShapes Go.WideShapes Go.ChangeAt Go.RowKit Go.Deep
set_option maxRecDepth 100000
set_option linter.unusedVariables false
theorem Tryz.cellsRowT:Tryz.prog.cellsOf 43=2:=by kernel_rfl
theorem Tryz.cellsTab:Tryz.prog.cellsOf 26=5:=by kernel_rfl
theorem Tryz.cellsPts15:Tryz.prog.cellsOf 22=1:=by kernel_rfl
theorem Tryz.cellsVrs15:Tryz.prog.cellsOf 23=1:=by kernel_rfl
theorem Tryz.cellsRws15:Tryz.prog.cellsOf 24=1:=by kernel_rfl
theorem array5 {α:Type}{cs:Array α}(h:cs.size=5):∃ c0 c1 c2 c3 c4,cs=#[c0,c1,c2,c3,c4]:=by
 obtain⟨l⟩:=cs
 match l,h with
 | [c0,c1,c2,c3,c4],_=>exact⟨c0,c1,c2,c3,c4,rfl⟩
section
variable {H : Type} {enc : TypeId × Value → H} {W : World}
theorem open_Rws {n:Nat}{v:Value}{x:DataW H × List MemPlace}(h:DataW.trod enc Tryz.prog W 0 (fun _=>true) true n 24 [v]=some x):∃ A c hs,v=.slice A (hs:List Rh).length c∧Rws W A hs:=by
 rcases open_slice Tryz.underlying24 h with ⟨hcs,-⟩ | ⟨a,len,cap,m,k,D,Pl,hcs,-,hl,hm,hmm,-,hx⟩
 ·injection hcs with hcs
  exact⟨none,0,[],hcs,Rws.nil⟩
 ·injection hcs with hcs
  have hmc:m=cap:=by rw[hmm];rfl
  have hx':∀ i,i < len→∃ q:Rh,W.cell? (a.add (i*2))=some (.slice q.A q.zs.length q.c)∧W.cell? (a.add (i*2+1))=some (.int .i64 q.out)∧Ints W q.A q.zs:=by
   intro i hi;obtain⟨cs',h1,h2⟩:=hx i (by omega);rw[Tryz.cellsRowT] at h1;obtain⟨_,hlen,hcell⟩:=World.cells?_some h1;obtain⟨xs,k2,hk,hxy,_,hxl,hf⟩:=DataW.trod_struct Tryz.underlying43 h2
   match xs,hxl,cs',hlen with
   | [y0,y1],_,[v0,v1],_=>
    have g0:=hf 0 _ rfl;have g1:=hf 1 _ rfl;simp[Tryz.cellsIntsT] at g0;simp[Tryz.cellsInt] at g1;have e0:=hcell 0 (by omega);have e1:=hcell 1 (by omega);rw[add_add] at e0 e1;obtain⟨p,r0,-,-⟩:=DataW.trod_int Tryz.underlying3 g1;injection r0 with r0
    subst r0;obtain⟨A,c,zs,rfl,hi'⟩:=open_Ints g0;exact⟨⟨A,c,zs,p⟩,by simpa using e0,by simpa using e1,hi'⟩
  obtain⟨F,hF⟩:∃ F:Nat→Rh,∀ i,i < len→W.cell? (a.add (i*2))=some (.slice (F i).A (F i).zs.length (F i).c)∧W.cell? (a.add (i*2+1))=some (.int .i64 (F i).out)∧Ints W (F i).A (F i).zs:=by
   refine⟨fun i=>if hi:i < len then Classical.choose (hx' i hi) else ⟨none,0,[],0⟩,fun i hi=>?_⟩;simp only[hi,dif_pos];exact Classical.choose_spec (hx' i hi)
  refine⟨some a,cap,(List.range len).map F,?_,⟨?_,fun hn=>⟨a,rfl,?_,fun j u hu=>?_⟩⟩,?_,?_⟩
  ·rw[hcs,List.length_map,List.length_range]
  ·rw[rh_len]
  ·have h0:=(hF 0 (by simpa using hn)).1;exact World.block_lt_of_cell? _ _ h0
  ·have hj:j < len*2:=by
    have:=(List.getElem?_eq_some_iff.1 hu).1;rw[rh_len] at this;simpa using this
   have hi:j / 2 < ((List.range len).map F).length:=by simp;omega
   obtain⟨f0,f1⟩:=rh2 ((List.range len).map F) (j / 2) hi;obtain⟨g0,g1,-⟩:=hF (j / 2) (by omega);have hg:((List.range len).map F)[j / 2]=F (j / 2):=by simp
   rw[hg] at f0 f1;rcases Nat.mod_two_eq_zero_or_one j with h2 | h2
   ·have ej:j=2*(j / 2):=by omega
    rw[ej] at hu ⊢;rw[f0] at hu;rw[Nat.mul_comm,g0];exact hu
   ·have ej:j=2*(j / 2)+1:=by omega
    rw[ej] at hu ⊢;rw[f1] at hu;rw[Nat.mul_comm,g1];exact hu
  ·rw[List.length_map,List.length_range];unfold maxLen at hm;omega
  ·intro q hq;obtain⟨i,hi,rfl⟩:=List.mem_map.1 hq;exact (hF i (by simpa using hi)).2.2
theorem open_Vrs {n:Nat}{v:Value}{x:DataW H × List MemPlace}(h:DataW.trod enc Tryz.prog W 0 (fun _=>true) true n 23 [v]=some x):∃ A c hs,v=.slice A (hs:List Vh).length c∧Vrs W A hs:=by
 rcases open_slice Tryz.underlying23 h with ⟨hcs,-⟩ | ⟨a,len,cap,m,k,D,Pl,hcs,-,hl,hm,hmm,-,hx⟩
 ·injection hcs with hcs
  exact⟨none,0,[],hcs,Vrs.nil⟩
 ·injection hcs with hcs
  have hmc:m=cap:=by rw[hmm];rfl
  have hx':∀ i,i < len→∃ q:Vh,W.cell? (a.add i)=some (.slice q.A q.zs.length q.c)∧Ints W q.A q.zs:=by
   intro i hi;obtain⟨cs',h1,h2⟩:=hx i (by omega);rw[Tryz.cellsIntsT] at h1;obtain⟨_,hlen,hcell⟩:=World.cells?_some h1
   match cs',hlen with
   | [v0],_=>
    have e0:=hcell 0 (by omega);rw[add_add] at e0;obtain⟨A,c,zs,rfl,hi'⟩:=open_Ints h2;exact⟨⟨A,c,zs⟩,by simpa using e0,hi'⟩
  obtain⟨F,hF⟩:∃ F:Nat→Vh,∀ i,i < len→W.cell? (a.add i)=some (.slice (F i).A (F i).zs.length (F i).c)∧Ints W (F i).A (F i).zs:=by
   refine⟨fun i=>if hi:i < len then Classical.choose (hx' i hi) else ⟨none,0,[]⟩,fun i hi=>?_⟩;simp only[hi,dif_pos];exact Classical.choose_spec (hx' i hi)
  refine⟨some a,cap,(List.range len).map F,?_,⟨?_,fun hn=>⟨a,rfl,?_,fun j u hu=>?_⟩⟩,?_,?_⟩
  ·rw[hcs,List.length_map,List.length_range]
  ·rw[vh_len]
  ·have h0:=(hF 0 (by simpa using hn)).1;exact World.block_lt_of_cell? _ _ h0
  ·have hj:j < len:=by
    have:=(List.getElem?_eq_some_iff.1 hu).1;rw[vh_len] at this;simpa using this
   have f0:=vh1 ((List.range len).map F) j (by simpa using hj);have hg:((List.range len).map F)[j]'(by simpa using hj)=F j:=by simp
   rw[hg] at f0;rw[f0] at hu;rw[(hF j hj).1];exact hu
  ·rw[List.length_map,List.length_range];unfold maxLen at hm;omega
  ·intro q hq;obtain⟨i,hi,rfl⟩:=List.mem_map.1 hq;exact (hF i (by simpa using hi)).2
theorem open_TabArg {r:Reach}{b0:Nat}{v:Value}{d:DataW H}{p:List MemPlace}(hv:Value.okWide Tryz.prog W r b0 26 v)(h:DataW.Trod enc Tryz.prog W 0 (fun _=>true) true 26 v d p) :
  ∃ (t:TabH) (hA vA rA:Option Addr) (hc vc rc:Nat),v=tabV hA hc vA vc rA rc t∧TabR W hA vA rA t:=by
 obtain⟨cs,rfl,hsz⟩:=okWide_struct Tryz.underlying26 hv;obtain⟨c0,c1,c2,c3,c4,rfl⟩:=array5 (hsz.trans Tryz.cellsTab);obtain⟨fuel,hf⟩:=h;obtain⟨xs,k2,hk,hxy,_,hxl,hg⟩:=DataW.trod_struct Tryz.underlying26 hf
 match xs,hxl with
 | [y0,y1,y2,y3,y4],_=>
  have g0:=hg 0 _ rfl;have g1:=hg 1 _ rfl;have g2:=hg 2 _ rfl;have g3:=hg 3 _ rfl;have g4:=hg 4 _ rfl;simp[Value.cells,Tryz.cellsInt] at g0 g1;simp[Value.cells,Tryz.cellsPts15] at g2;simp[Value.cells,Tryz.cellsVrs15] at g3;simp[Value.cells,Tryz.cellsRws15] at g4;obtain⟨s,e0,-,-⟩:=DataW.trod_int Tryz.underlying3 g0;injection e0 with e0
  subst e0;obtain⟨m,e1,-,-⟩:=DataW.trod_int Tryz.underlying3 g1;injection e1 with e1
  subst e1;obtain⟨hA,hc,ps,rfl,hp⟩:=open_Pts g2;obtain⟨vA,vc,vs,rfl,hv'⟩:=open_Vrs g3;obtain⟨rA,rc,rs,rfl,hr⟩:=open_Rws g4;exact⟨⟨s,m,ps,vs,rs⟩,hA,vA,rA,hc,vc,rc,rfl,hp,hv',hr⟩
end
end Go.Proofs.YtlegfdllipkggaaGreatDoor
namespace Go.Proofs.YtlegfdllipkggaaGreatDoor
set_option maxRecDepth 100000
set_option linter.unusedVariables false
set_option linter.unusedSimpArgs false
def rfitsP (vars:List (List Int))(bs:List Int)(e s:Int):Bool:=if 0≤e then e == s else decide (s ∈ vars.getD (-1 - e).toNat []) && (decide (bs.getD (-1 - e).toNat 0 < 0) || bs.getD (-1 - e).toNat 0 == s)
def rsetP (bs:List Int)(e s:Int):List Int:=if 0≤e then bs else bs.set (-1 - e).toNat s
def rbindAll (vars:List (List Int)):List Int→List Int→List Int→Option (List Int)
 | [],_,bs=>some bs
 | _ :: _,[],_=>none
 | e :: l,s :: r,bs=>if rfitsP vars bs e s=true then rbindAll vars l r (rsetP bs e s) else none
def exactP (vars:List (List Int))(ins:List Int)(out:Int)(inn:List Int):Int:=match rbindAll vars ins inn (List.replicate vars.length (-1)) with
 | some bs=>outP bs out
 | none=>-1
def leastP (a b:Int):Int:=if a < 0 then b else if b < 0 then a else min a b
def rturnTo (hood:List (Int × Int))(k:Int)(ins:List Int):Nat→List Int
 | 0=>List.replicate ins.length 0
 | m+1=>if 0≤idxF (symP k (hood.getD m (0,0))) 0 hood then (rturnTo hood k ins m).set (idxF (symP k (hood.getD m (0,0))) 0 hood).toNat (ins.getD m 0) else rturnTo hood k ins m
def rdecTo (hood:List (Int × Int))(vars:List (List Int))(ins:List Int)(out:Int)(inn:List Int):Nat→Int
 | 0=>-1
 | k+1=>leastP (rdecTo hood vars ins out inn k) (exactP vars (rturnTo hood (k:Int) ins ins.length) out inn)
def rpStep (vars:List (List Int))(out s:Int)(rest bs:List Int)(F:List Int→List Int→Int)(x:Int × Bool)(i:Nat):Int × Bool:=
 if x.2=true then x else if rfitsP vars bs (rest.getD i 0) s=false∨rest.getD i 0 ∈ rest.take i then x else
  (leastP x.1 (F (rest.eraseIdx i) (rsetP bs (rest.getD i 0) s)),decide (0≤leastP x.1 (F (rest.eraseIdx i) (rsetP bs (rest.getD i 0) s))) && decide (0≤out))
def rpermP (vars:List (List Int))(out:Int)(inn:List Int)(c:Int):Nat→List Int→List Int→Int
 | 0,_,bs=>outP bs out
 | L+1,rest,bs=>if ((inn.length - (L+1):Nat):Int)=c then rpermP vars out inn c L rest bs else
   ((List.range rest.length).foldl (rpStep vars out (inn.getD (inn.length - (L+1)) 0) rest bs (rpermP vars out inn c L)) (-1,false)).1
def toR (x:Int):Int × Bool:=if x < 0 then (0,false) else (x,true)
def rpermutedP (hood:List (Int × Int))(vars:List (List Int))(ins:List Int)(out:Int)(inn:List Int):Int:=
 if 0≤ctrP hood then
  (if rfitsP vars (List.replicate vars.length (-1)) (ins.getD (ctrP hood).toNat 0) (inn.getD (ctrP hood).toNat 0)=true then rpermP vars out inn (ctrP hood) inn.length (offC ins ins.length (ctrP hood)) (rsetP (List.replicate vars.length (-1)) (ins.getD (ctrP hood).toNat 0) (inn.getD (ctrP hood).toNat 0)) else -1)
 else rpermP vars out inn (ctrP hood) inn.length (offC ins ins.length (ctrP hood)) (List.replicate vars.length (-1))
def rdecideP (sym:Int)(hood:List (Int × Int))(vars:List (List Int))(ins:List Int)(out:Int)(inn:List Int):Int:=
 if sym=0 then exactP vars ins out inn else if sym=3 then rpermutedP hood vars ins out inn else rdecTo hood vars ins out inn (nSym sym)
structure RfN (N:Nat)(vars:List (List Int))(bs:List Int)(qs:List (Int × Int)):Prop where
 len:bs.length=N
 con:Con vars qs
 nn:∀ p ∈ qs,0≤p.2
 el:∀ p ∈ qs,-(N:Int)≤p.1
 at_:∀ v:Nat,v < N→(∃ p ∈ qs,p.1 = -1 - (v:Int)∧bs.getD v 0=p.2)∨((∀ p ∈ qs,p.1≠-1 - (v:Int))∧bs.getD v 0 = -1)
theorem RfN.neg {N:Nat}{vars:List (List Int)}:RfN N vars (List.replicate N (-1)) []:=⟨by simp,Con.nil,by simp,by simp,fun v hv=>.inr ⟨by simp,by
 rw[List.getD_eq_getElem?_getD,List.getElem?_replicate,if_pos hv];rfl⟩⟩
theorem rfit_step {N:Nat}{vars:List (List Int)}{bs:List Int}{qs:List (Int × Int)}(h:RfN N vars bs qs){e s:Int}(he:-(N:Int)≤e)(hs:0≤s) :
  (rfitsP vars bs e s=true ↔ Con vars ((e,s) :: qs))∧(rfitsP vars bs e s=true→RfN N vars (rsetP bs e s) ((e,s) :: qs)):=by
 have hfin:∀ b':List Int,Con vars ((e,s) :: qs)→b'.length=N→(∀ v:Nat,v < N→(∃ p ∈ (e,s) :: qs,p.1 = -1 - (v:Int)∧b'.getD v 0=p.2)∨((∀ p ∈ (e,s) :: qs,p.1≠-1 - (v:Int))∧b'.getD v 0 = -1))→RfN N vars b' ((e,s) :: qs):=fun b' hc hl ha=>
  ⟨hl,hc,fun p hp=>by rcases List.mem_cons.1 hp with rfl | hp;exact hs;exact h.nn p hp,fun p hp=>by rcases List.mem_cons.1 hp with rfl | hp;exact he;exact h.el p hp,ha⟩
 unfold rfitsP rsetP;by_cases h0:0≤e
 ·rw[if_pos h0,if_pos h0];have hiff:(e == s)=true ↔ Con vars ((e,s) :: qs):=by
   rw[beq_iff_eq];constructor
   ·rintro rfl;refine⟨fun p hp hp0=>?_,fun p hp hp0=>?_,fun p hp q hq hp0 hpq=>?_⟩
    ·rcases List.mem_cons.1 hp with rfl | hp
     ·rfl
     ·exact h.con.1 p hp hp0
    ·rcases List.mem_cons.1 hp with rfl | hp
     ·dsimp only at hp0;omega
     ·exact h.con.2.1 p hp hp0
    ·rcases List.mem_cons.1 hp with rfl | hp
     ·dsimp only at hp0;omega
     ·rcases List.mem_cons.1 hq with rfl | hq
      ·dsimp only at hpq;omega
      ·exact h.con.2.2 p hp q hq hp0 hpq
   ·intro hc;exact hc.1 (e,s) (by simp) h0
  refine⟨hiff,fun hk=>hfin bs (hiff.1 hk) h.len fun v hv=>?_⟩;rcases h.at_ v hv with ⟨p,hp,h1,h2⟩ | ⟨h1,h2⟩
  ·exact .inl ⟨p,List.mem_cons_of_mem _ hp,h1,h2⟩
  ·refine .inr ⟨fun p hp=>?_,h2⟩;rcases List.mem_cons.1 hp with rfl | hp
   ·dsimp only;omega
   ·exact h1 p hp
 ·rw[if_neg h0,if_neg h0];obtain⟨v,hv⟩:∃ v:Nat,-1 - e=(v:Int):=⟨(-1 - e).toNat,by omega⟩
  have hv':(-1 - e).toNat=v:=by omega
  have hev:e = -1 - (v:Int):=by omega
  have hvN:v < N:=by omega
  rw[hv'];have hset:Con vars ((e,s) :: qs)→RfN N vars (bs.set v s) ((e,s) :: qs):=fun hc=>hfin _ hc (by rw[List.length_set];exact h.len) fun u hu=>by
   by_cases huv:v=u
   ·subst huv;exact .inl ⟨(e,s),by simp,hev,getD_set_eq (by rw[h.len];exact hvN)⟩
   ·rw[getD_set_ne huv];rcases h.at_ u hu with ⟨q,hq,h3,h4⟩ | ⟨h3,h4⟩
    ·exact .inl ⟨q,List.mem_cons_of_mem _ hq,h3,h4⟩
    ·refine .inr ⟨fun q hq=>?_,h4⟩;rcases List.mem_cons.1 hq with rfl | hq
     ·dsimp only;omega
     ·exact h3 q hq
  have hiff:(decide (s ∈ vars.getD v []) && (decide (bs.getD v 0 < 0) || bs.getD v 0 == s))=true ↔ Con vars ((e,s) :: qs):=by
   rw[Bool.and_eq_true,Bool.or_eq_true,decide_eq_true_eq,decide_eq_true_eq,beq_iff_eq];rcases h.at_ v hvN with ⟨p,hp,p1,p2⟩ | ⟨hno,hm1⟩
   ·constructor
    ·rintro⟨-,h2⟩;have hp2:=h.nn p hp;have:p.2=s:=by
      rcases h2 with h2 | h2
      ·omega
      ·rw[← p2];exact h2
     subst this;have hin:(e,p.2) ∈ qs:=by
      have:(e,p.2)=p:=Prod.ext (by rw[hev,p1]) rfl;rw[this];exact hp
     exact h.con.sub fun q hq=>by
      rcases List.mem_cons.1 hq with rfl | hq
      ·exact hin
      ·exact hq
    ·intro hc;refine⟨?_,.inr ?_⟩
     ·have:=hc.2.1 (e,s) (by simp) (by dsimp only;omega);dsimp only at this;rwa [hv'] at this
     ·rw[p2];exact (hc.2.2 (e,s) (by simp) p (by simp[hp]) (by dsimp only;omega) (by dsimp only;rw[p1,hev])).symm
   ·constructor
    ·rintro⟨h1,-⟩;refine⟨fun p hp hp0=>?_,fun p hp hp0=>?_,fun p hp q hq hp0 hpq=>?_⟩
     ·rcases List.mem_cons.1 hp with rfl | hp
      ·dsimp only at hp0;omega
      ·exact h.con.1 p hp hp0
     ·rcases List.mem_cons.1 hp with rfl | hp
      ·dsimp only;rw[hv'];exact h1
      ·exact h.con.2.1 p hp hp0
     ·rcases List.mem_cons.1 hp with rfl | hp
      ·rcases List.mem_cons.1 hq with rfl | hq
       ·rfl
       ·exact absurd hpq.symm (by dsimp only;rw[hev];exact hno q hq)
      ·rcases List.mem_cons.1 hq with rfl | hq
       ·exact absurd hpq (by dsimp only;rw[hev];exact hno p hp)
       ·exact h.con.2.2 p hp q hq hp0 hpq
    ·intro hc;refine⟨?_,.inl (by omega)⟩;have:=hc.2.1 (e,s) (by simp) (by dsimp only;omega);dsimp only at this;rwa [hv'] at this
  exact⟨hiff,fun hk=>hset (hiff.1 hk)⟩
theorem RfN.val {N:Nat}{vars:List (List Int)}{bs:List Int}{qs:List (Int × Int)}(h:RfN N vars bs qs){out:Int}(ho:-(N:Int)≤out)(hm:out < 0→∃ p ∈ qs,p.1=out)(v:Int):valO out qs v ↔ v=outP bs out:=by
 unfold valO outP
 split
 ·exact Iff.rfl
 ·rename_i h0;obtain⟨u,hu⟩:∃ u:Nat,-1 - out=(u:Int):=⟨(-1 - out).toNat,by omega⟩
  have hu':(-1 - out).toNat=u:=by omega
  rw[hu'];obtain⟨p,hp,hpo⟩:=hm (by omega);have hg:bs.getD u 0=p.2:=by
   rcases h.at_ u (by omega) with ⟨q,hq,h3,h4⟩ | ⟨h3,-⟩
   ·rw[h4];exact h.con.2.2 q hq p hp (by omega) (by omega)
   ·exact absurd (show p.1 = -1 - (u:Int) by omega) (h3 p hp)
  rw[hg];constructor
  ·rintro⟨q,hq,h1,h2⟩;rw[h2];exact h.con.2.2 q hq p hp (by omega) (by omega)
  ·intro h1;exact⟨p,hp,hpo,h1⟩
theorem RfN.out_nn {N:Nat}{vars:List (List Int)}{bs:List Int}{qs:List (Int × Int)}(h:RfN N vars bs qs){out:Int}(ho:-(N:Int)≤out)(hm:out < 0→∃ p ∈ qs,p.1=out):0≤outP bs out:=by
 have hv:=(h.val ho hm (outP bs out)).2 rfl;unfold valO at hv
 split at hv
 ·rw[hv];assumption
 ·obtain⟨p,hp,-,e⟩:=hv;rw[e];exact h.nn p hp
def ET (vars:List (List Int))(ins:List Int)(out:Int)(inn:List Int)(v:Int):Prop:=Con vars (ins.zip inn)∧valO out (ins.zip inn) v
theorem Con.iff {vars:List (List Int)}{ps qs:List (Int × Int)}(h:∀ p,p ∈ ps ↔ p ∈ qs):Con vars ps ↔ Con vars qs:=⟨fun k=>k.sub fun p hp=>(h p).2 hp,fun k=>k.sub fun p hp=>(h p).1 hp⟩
theorem valO.iff {out v:Int}{ps qs:List (Int × Int)}(h:∀ p,p ∈ ps ↔ p ∈ qs):valO out ps v ↔ valO out qs v:=⟨fun k=>k.sub fun p hp=>(h p).1 hp,fun k=>k.sub fun p hp=>(h p).2 hp⟩
theorem rbind_law {N:Nat}{vars:List (List Int)}:∀ (ins inn bs:List Int)(qs:List (Int × Int)),RfN N vars bs qs→(∀ e ∈ ins,-(N:Int)≤e)→(∀ s ∈ inn,0≤s)→ins.length=inn.length→
  (∃ b',rbindAll vars ins inn bs=some b'∧∃ ps,(∀ p,p ∈ ps ↔ p ∈ ins.zip inn∨p ∈ qs)∧RfN N vars b' ps)∨(rbindAll vars ins inn bs=none∧¬ Con vars (ins.zip inn ++ qs))
 | [],inn,bs,qs,h,_,_,_=>.inl ⟨bs,rfl,qs,fun p=>by simp,h⟩
 | e :: l,[],_,_,_,_,_,hl=>by simp at hl
 | e :: l,s :: r,bs,qs,h,he,hs,hl=>by
  obtain⟨k1,k2⟩:=rfit_step h (he e (by simp)) (hs s (by simp));unfold rbindAll;by_cases hf:rfitsP vars bs e s=true
  ·rw[if_pos hf];rcases rbind_law l r _ _ (k2 hf) (fun x hx=>he x (by simp[hx])) (fun x hx=>hs x (by simp[hx])) (by simpa using hl) with ⟨b',h1,ps,h2,h3⟩ | ⟨h1,h2⟩
   ·refine .inl ⟨b',h1,ps,fun p=>?_,h3⟩;rw[h2 p,List.zip_cons_cons,List.mem_cons,List.mem_cons];constructor
    ·rintro (h | h | h)
     ·exact .inl (.inr h)
     ·exact .inl (.inl h)
     ·exact .inr h
    ·rintro ((h | h) | h)
     ·exact .inr (.inl h)
     ·exact .inl h
     ·exact .inr (.inr h)
   ·refine .inr ⟨h1,fun hc=>h2 (hc.sub fun p hp=>?_)⟩;rw[List.zip_cons_cons,List.cons_append];rcases List.mem_append.1 hp with hp | hp
    ·exact List.mem_cons_of_mem _ (List.mem_append_left _ hp)
    ·rcases List.mem_cons.1 hp with rfl | hp
     ·simp
     ·exact List.mem_cons_of_mem _ (List.mem_append_right _ hp)
  ·rw[if_neg hf];refine .inr ⟨rfl,fun hc=>hf (k1.2 (hc.sub fun p hp=>?_))⟩;rw[List.zip_cons_cons,List.cons_append];rcases List.mem_cons.1 hp with rfl | hp
   ·simp
   ·exact List.mem_cons_of_mem _ (List.mem_append_right _ hp)
theorem bind_law {vars:List (List Int)}:∀ (ins inn bs:List Int)(qs:List (Int × Int)),Rf vars bs qs→(∀ e ∈ ins,-40≤e)→(∀ s ∈ inn,0≤s)→ins.length=inn.length→
  (∃ b',bindAll vars ins inn bs=some b'∧∃ ps,(∀ p,p ∈ ps ↔ p ∈ ins.zip inn∨p ∈ qs)∧Rf vars b' ps)∨(bindAll vars ins inn bs=none∧¬ Con vars (ins.zip inn ++ qs))
 | [],inn,bs,qs,h,_,_,_=>.inl ⟨bs,rfl,qs,fun p=>by simp,h⟩
 | e :: l,[],_,_,_,_,_,hl=>by simp at hl
 | e :: l,s :: r,bs,qs,h,he,hs,hl=>by
  obtain⟨k1,k2⟩:=acc_step h (he e (by simp)) (hs s (by simp));unfold bindAll;by_cases hf:(acceptP vars bs e s).1=true
  ·rw[if_pos hf];rcases bind_law l r _ _ (k2 hf) (fun x hx=>he x (by simp[hx])) (fun x hx=>hs x (by simp[hx])) (by simpa using hl) with ⟨b',h1,ps,h2,h3⟩ | ⟨h1,h2⟩
   ·refine .inl ⟨b',h1,ps,fun p=>?_,h3⟩;rw[h2 p,List.zip_cons_cons,List.mem_cons,List.mem_cons];constructor
    ·rintro (h | h | h)
     ·exact .inl (.inr h)
     ·exact .inl (.inl h)
     ·exact .inr h
    ·rintro ((h | h) | h)
     ·exact .inr (.inl h)
     ·exact .inl h
     ·exact .inr (.inr h)
   ·refine .inr ⟨h1,fun hc=>h2 (hc.sub fun p hp=>?_)⟩;rw[List.zip_cons_cons,List.cons_append];rcases List.mem_append.1 hp with hp | hp
    ·exact List.mem_cons_of_mem _ (List.mem_append_left _ hp)
    ·rcases List.mem_cons.1 hp with rfl | hp
     ·simp
     ·exact List.mem_cons_of_mem _ (List.mem_append_right _ hp)
  ·rw[if_neg hf];refine .inr ⟨rfl,fun hc=>hf (k1.2 (hc.sub fun p hp=>?_))⟩;rw[List.zip_cons_cons,List.cons_append];rcases List.mem_cons.1 hp with rfl | hp
   ·simp
   ·exact List.mem_cons_of_mem _ (List.mem_append_right _ hp)
theorem mem_zip_fst {ins inn:List Int}(hl:ins.length=inn.length){e:Int}(h:e ∈ ins):∃ p ∈ ins.zip inn,p.1=e:=by
 obtain⟨i,hi,rfl⟩:=List.getElem_of_mem h;refine⟨(ins[i],inn[i]'(by omega)),?_,rfl⟩;rw[← List.getElem_zip (h:=by rw[List.length_zip];omega)];exact List.getElem_mem _
theorem IsMin.one {T:Int→Prop}{n:Int}(h:∀ v,T v ↔ v=n):IsMin T (n,true):=.inr ⟨rfl,(h n).2 rfl,fun v hv=>by rw[(h v).1 hv];exact Int.le_refl _⟩
theorem exact_min {vars:List (List Int)}{ins:List Int}{out:Int}{inn:List Int}(hn:∀ s ∈ inn,0≤s)(he:∀ e ∈ ins,-(vars.length:Int)≤e)(ho:-(vars.length:Int)≤out)(hm:out < 0→out ∈ ins)(hl:ins.length=inn.length):IsMin (ET vars ins out inn) (toR (exactP vars ins out inn)):=by
 unfold exactP;rcases rbind_law ins inn _ _ (RfN.neg (N:=vars.length) (vars:=vars)) he hn hl with ⟨b',h1,ps,h2,h3⟩ | ⟨h1,h2⟩
 ·rw[h1];dsimp only;have hps:∀ p,p ∈ ps ↔ p ∈ ins.zip inn:=fun p=>by rw[h2 p];simp
  have hmm:out < 0→∃ p ∈ ps,p.1=out:=fun h0=>by
   obtain⟨p,hp,e⟩:=mem_zip_fst hl (hm h0);exact⟨p,(hps p).2 hp,e⟩
  have hnn:=h3.out_nn ho hmm;unfold toR;rw[if_neg (by omega)];refine IsMin.one fun v=>?_;rw[← h3.val ho hmm v,valO.iff hps];exact⟨fun h=>h.2,fun h=>⟨(Con.iff hps).1 h3.con,h⟩⟩
 ·rw[h1];refine IsMin.none fun v hv=>h2 ?_;rw[List.append_nil];exact hv.1
theorem plain_min {vars:List (List Int)}{ins:List Int}{out:Int}{inn:List Int}(hn:∀ s ∈ inn,0≤s)(he:∀ e ∈ ins,-40≤e)(ho:-40≤out)(hm:out < 0→out ∈ ins)(hl:ins.length=inn.length):IsMin (ET vars ins out inn) (plainP vars ins out inn):=by
 rcases bind_law ins inn _ _ (Rf.neg (vars:=vars)) he hn hl with ⟨b',h1,ps,h2,h3⟩ | ⟨h1,h2⟩
 ·rw[plainP_some h1];have hps:∀ p,p ∈ ps ↔ p ∈ ins.zip inn:=fun p=>by rw[h2 p];simp
  have hmm:out < 0→∃ p ∈ ps,p.1=out:=fun h0=>by
   obtain⟨p,hp,e⟩:=mem_zip_fst hl (hm h0);exact⟨p,(hps p).2 hp,e⟩
  refine IsMin.one fun v=>?_;rw[← h3.val ho hmm v,valO.iff hps];exact⟨fun h=>h.2,fun h=>⟨(Con.iff hps).1 h3.con,h⟩⟩
 ·rw[plainP_none h1];refine IsMin.none fun v hv=>h2 ?_;rw[List.append_nil];exact hv.1
theorem toR_or {T U:Int→Prop}{a b:Int}(h:IsMin T (toR a))(k:IsMin U (toR b)):IsMin (fun v=>T v∨U v) (toR (leastP a b)):=by
 unfold toR leastP at *;by_cases ha:a < 0
 ·rw[if_pos ha] at h ⊢;rcases h with ⟨-,h⟩ | ⟨h,-,-⟩
  ·exact k.congr fun v=>⟨.inr,fun h'=>h'.resolve_left (h v)⟩
  ·cases h
 ·rw[if_neg ha] at h ⊢;rcases h with ⟨h,-⟩ | ⟨-,h2,h3⟩
  ·cases h
  ·by_cases hb:b < 0
   ·rw[if_pos hb] at k ⊢;rw[if_neg ha];rcases k with ⟨-,k⟩ | ⟨k,-,-⟩
    ·exact .inr ⟨rfl,.inl h2,fun v hv=>h3 v (hv.resolve_right (k v))⟩
    ·cases k
   ·rw[if_neg hb] at k ⊢;rcases k with ⟨k,-⟩ | ⟨-,k2,k3⟩
    ·cases k
    ·have hm:¬ min a b < 0:=by omega
     rw[if_neg hm];refine .inr ⟨rfl,?_,fun v hv=>?_⟩
     ·by_cases hab:a≤b
      ·rw[show min a b=a by omega];exact .inl h2
      ·rw[show min a b=b by omega];exact .inr k2
     ·dsimp only at *;rcases hv with hv | hv
      ·have:=h3 v hv;omega
      ·have:=k3 v hv;omega
theorem better_or {T U:Int→Prop}{r q:Int × Bool}(h:IsMin T r)(k:IsMin U q):IsMin (fun v=>T v∨U v) (if q.2=true then better r q.1 else r):=by
 rcases k with ⟨k1,k2⟩ | ⟨k1,k2,k3⟩
 ·rw[if_neg (by rw[k1];simp)];exact h.congr fun v=>⟨.inl,fun h'=>h'.resolve_right (k2 v)⟩
 ·rw[if_pos k1];have:=h.better q.1;rcases this with ⟨-,g⟩ | ⟨g1,g2,g3⟩
  ·exact absurd (.inr rfl) (g q.1)
  ·refine .inr ⟨g1,?_,fun v hv=>?_⟩
   ·rcases g2 with g2 | g2
    ·exact .inl g2
    ·rw[g2];exact .inr k2
   ·rcases hv with hv | hv
    ·exact g3 v (.inl hv)
    ·have h1:=g3 q.1 (.inr rfl);have h2:=k3 v hv;omega
theorem all_of {α:Type} [DecidableEq α]:∀ (l m:List α),l.Nodup→(∀ x ∈ l,x ∈ m)→m.length≤l.length→∀ y ∈ m,y ∈ l
 | [],m,_,_,h,y,hy=>by
  have:m=[]:=List.length_eq_zero_iff.1 (by simpa using h);rw[this] at hy;cases hy
 | x :: l,m,hn,hs,h,y,hy=>by
  obtain⟨hx,hn'⟩:=List.nodup_cons.1 hn;have hxm:=hs x (by simp);by_cases hyx:y=x
  ·simp[hyx]
  ·refine List.mem_cons_of_mem _ (all_of l (m.erase x) hn' (fun z hz=>?_) ?_ y ?_)
   ·exact (List.mem_erase_of_ne (by rintro rfl;exact hx hz)).2 (hs z (by simp[hz]))
   ·rw[List.length_erase_of_mem hxm];simp only[List.length_cons] at h;omega
   ·exact (List.mem_erase_of_ne hyx).2 hy
theorem symP_inj {k:Nat}(hk:k < 8){p q:Int × Int}(h:symP (k:Int) p=symP (k:Int) q):p=q:=by
 have hj:symJ (k:Int)=k:=by unfold symJ;omega
 unfold symP at h;rw[hj] at h;obtain⟨p1,p2⟩:=p;obtain⟨q1,q2⟩:=q;obtain rfl | rfl | rfl | rfl | rfl | rfl | rfl | rfl:k=0∨k=1∨k=2∨k=3∨k=4∨k=5∨k=6∨k=7:=by omega
 all_goals
  simp[matL] at h;rw[Prod.mk.injEq];omega
theorem idxF_get {ps:List (Int × Int)}{q:Int × Int}(h:q ∈ ps):∃ j,∃ hj:j < ps.length,idxF q 0 ps=(j:Int)∧ps[j]=q:=by
 have:∀ (l:List (Int × Int)) (k:Nat),q ∈ l→∃ j,∃ hj:j < l.length,idxF q k l=((k+j:Nat):Int)∧l[j]=q:=by
  intro l;induction l with
  | nil=>intro k h;cases h
  | cons x l ih=>
   intro k h;unfold idxF;by_cases hx:x=q
   ·rw[if_pos hx];exact⟨0,by simp,rfl,hx⟩
   ·rw[if_neg hx];obtain⟨j,hj,h1,h2⟩:=ih (k+1) ((List.mem_cons.1 h).resolve_left (fun e=>hx e.symm));exact⟨j+1,by simpa using hj,by rw[h1];congr 1;omega,by simpa using h2⟩
 obtain⟨j,hj,h1,h2⟩:=this ps 0 h;exact⟨j,hj,by rw[h1];simp,h2⟩
theorem rturn_len (hood:List (Int × Int))(k:Int)(ins:List Int):∀ m,(rturnTo hood k ins m).length=ins.length
 | 0=>by unfold rturnTo;simp
 | m+1=>by
  unfold rturnTo
  split
  ·rw[List.length_set];exact rturn_len hood k ins m
  ·exact rturn_len hood k ins m
theorem rturn_at {hood:List (Int × Int)}{k:Nat}(hk:k < 8)(hn:hood.Nodup)(hc:∀ q ∈ hood,symP (k:Int) q ∈ hood){ins:List Int}(hl:ins.length=hood.length):∀ m,m≤hood.length→∀ i (hi:i < m)(h:i < hood.length)(j:Nat),idxF (symP (k:Int) hood[i]) 0 hood=(j:Int)→(rturnTo hood (k:Int) ins m).getD j 0=ins.getD i 0
 | 0,_,i,hi,_,_,_=>absurd hi (Nat.not_lt_zero _)
 | m+1,hm,i,hi,h,j,hj=>by
  have hmg:hood.getD m (0,0)=hood[m]'(by omega):=by rw[List.getD_eq_getElem?_getD,List.getElem?_eq_getElem (by omega)];rfl
  obtain⟨jm,hjm,e1,e2⟩:=idxF_get (hc _ (List.getElem_mem (show m < hood.length by omega)));unfold rturnTo;rw[hmg,e1,if_pos (Int.natCast_nonneg jm),Int.toNat_natCast];by_cases him:i=m
  ·subst him;rw[e1] at hj;have:jm=j:=by omega
   subst this;exact getD_set_eq (by rw[rturn_len,hl];exact hjm)
  ·obtain⟨ji,hji,f1,f2⟩:=idxF_get (hc _ (List.getElem_mem h));rw[f1] at hj;have hjj:ji=j:=by omega
   subst hjj;have hne:jm≠ji:=by
    rintro rfl;have:=symP_inj hk (e2.symm.trans f2);exact him ((List.getElem_inj hn).1 this).symm
   rw[getD_set_ne hne];exact rturn_at hk hn hc hl m (by omega) i (by omega) h ji f1
theorem mem_zip_iff {a b:List Int}(hl:a.length=b.length){p:Int × Int}:p ∈ a.zip b ↔ ∃ i,i < a.length∧p=(a.getD i 0,b.getD i 0):=by
 constructor
 ·intro h;obtain⟨i,hi,rfl⟩:=List.getElem_of_mem h;rw[List.length_zip] at hi;refine⟨i,by omega,?_⟩;rw[List.getElem_zip,List.getD_eq_getElem?_getD,List.getElem?_eq_getElem (by omega),List.getD_eq_getElem?_getD,List.getElem?_eq_getElem (by omega)];rfl
 ·rintro⟨i,hi,rfl⟩;rw[List.getD_eq_getElem?_getD,List.getElem?_eq_getElem hi,List.getD_eq_getElem?_getD,List.getElem?_eq_getElem (by omega)];show (a[i],b[i]) ∈ _;rw[← List.getElem_zip (h:=by rw[List.length_zip];omega)];exact List.getElem_mem _
theorem turn_pairs {hood:List (Int × Int)}{k:Nat}(hk:k < 8)(hn:hood.Nodup)(hc:∀ q ∈ hood,symP (k:Int) q ∈ hood){ins inn:List Int}(hl:ins.length=hood.length)(hi:inn.length=hood.length)(p:Int × Int) :
  p ∈ ins.zip (turnedP hood (k:Int) inn) ↔ p ∈ (rturnTo hood (k:Int) ins ins.length).zip inn:=by
 have htl:(turnedP hood (k:Int) inn).length=hood.length:=by unfold turnedP;rw[List.length_map]
 have htg:∀ i (h:i < hood.length) (j:Nat),idxF (symP (k:Int) hood[i]) 0 hood=(j:Int)→(turnedP hood (k:Int) inn).getD i 0=inn.getD j 0:=fun i h j hj=>by
  unfold turnedP;rw[List.getD_eq_getElem?_getD,List.getElem?_map,List.getElem?_eq_getElem h,Option.map_some,hj,Int.toNat_natCast];rfl
 rw[mem_zip_iff (by rw[hl,htl]),mem_zip_iff (by rw[rturn_len,hl,hi]),rturn_len,hl];constructor
 ·rintro⟨i,h,rfl⟩;obtain⟨j,hj,e1,-⟩:=idxF_get (hc _ (List.getElem_mem h));exact⟨j,hj,by rw[htg i h j e1,rturn_at hk hn hc hl hood.length (Nat.le_refl _) i h h j e1]⟩
 ·rintro⟨j,hj,rfl⟩;have hmem:hood[j] ∈ hood.map (symP (k:Int)):=all_of _ hood (List.pairwise_map.2 (hn.imp fun h e=>h (symP_inj hk e))) (fun x hx=>by
   obtain⟨q,hq,rfl⟩:=List.mem_map.1 hx;exact hc q hq) (by rw[List.length_map];exact Nat.le_refl _) _ (List.getElem_mem hj)
  obtain⟨q,hq,e⟩:=List.mem_map.1 hmem;obtain⟨i,hi',rfl⟩:=List.getElem_of_mem hq;have e1:idxF (symP (k:Int) hood[i]) 0 hood=(j:Int):=by rw[e];exact idxF_at hn hj
  exact⟨i,hi',by rw[htg i hi' j e1,rturn_at hk hn hc hl hood.length (Nat.le_refl _) i hi' hi' j e1]⟩
theorem ET.turn {vars:List (List Int)}{hood:List (Int × Int)}{k:Nat}(hk:k < 8)(hn:hood.Nodup)(hc:∀ q ∈ hood,symP (k:Int) q ∈ hood){ins inn:List Int}{out:Int}(hl:ins.length=hood.length)(hi:inn.length=hood.length)(v:Int) :
  ET vars ins out (turnedP hood (k:Int) inn) v ↔ ET vars (rturnTo hood (k:Int) ins ins.length) out inn v:=by
 have h:=turn_pairs hk hn hc hl hi;unfold ET;rw[Con.iff h,valO.iff h]
theorem turned_nn {hood:List (Int × Int)}{k:Int}{inn:List Int}(h:∀ s ∈ inn,0≤s):∀ s ∈ turnedP hood k inn,0≤s:=fun s hs=>by
 unfold turnedP at hs;obtain⟨q,-,rfl⟩:=List.mem_map.1 hs;exact getD_mem_nn h _
theorem rturn_mem {hood:List (Int × Int)}{k:Nat}(hk:k < 8)(hn:hood.Nodup)(hc:∀ q ∈ hood,symP (k:Int) q ∈ hood){ins:List Int}(hl:ins.length=hood.length)(e:Int):e ∈ rturnTo hood (k:Int) ins ins.length ↔ e ∈ ins:=by
 have hp:=turn_pairs (inn:=List.replicate hood.length 0) hk hn hc hl (by simp);have htl:(turnedP hood (k:Int) (List.replicate hood.length 0)).length=hood.length:=by unfold turnedP;rw[List.length_map]
 constructor
 ·intro h;obtain⟨p,h1,h2⟩:=mem_zip_fst (inn:=List.replicate hood.length 0) (by rw[rturn_len,hl];simp) h;rw[← h2];exact (List.of_mem_zip (a:=p.1) (b:=p.2) ((hp p).2 h1)).1
 ·intro h;obtain⟨p,h1,h2⟩:=mem_zip_fst (inn:=turnedP hood (k:Int) (List.replicate hood.length 0)) (by rw[hl,htl]) h;rw[← h2];exact (List.of_mem_zip (a:=p.1) (b:=p.2) ((hp p).1 h1)).1
theorem decTo_min {vars:List (List Int)}{hood:List (Int × Int)}{ins inn:List Int}{out:Int}(hn:∀ s ∈ inn,0≤s)(he:∀ e ∈ ins,-40≤e)(ho:-40≤out)(hm:out < 0→out ∈ ins)(hl:ins.length=hood.length):∀ k:Nat,IsMin (fun v=>∃ j,j < k∧ET vars ins out (turnedP hood (j:Int) inn) v) (decTo hood vars ins out inn k)
 | 0=>IsMin.none fun v ⟨j,hj,_⟩=>absurd hj (Nat.not_lt_zero _)
 | k+1=>by
  have h1:=decTo_min (vars:=vars) (hood:=hood) hn he ho hm hl k;have h2:=plain_min (vars:=vars) (ins:=ins) (out:=out) (inn:=turnedP hood (k:Int) inn) (turned_nn hn) he ho hm (by unfold turnedP;rw[List.length_map];exact hl);have h3:=better_or h1 h2;unfold decTo;refine h3.congr fun v=>⟨fun h=>?_,fun ⟨j,hj,h⟩=>?_⟩
  ·rcases h with ⟨j,hj,h⟩ | h
   ·exact⟨j,by omega,h⟩
   ·exact⟨k,by omega,h⟩
  ·rcases Nat.lt_succ_iff_lt_or_eq.1 hj with hj | rfl
   ·exact .inl ⟨j,hj,h⟩
   ·exact .inr h
theorem rdecTo_min {vars:List (List Int)}{hood:List (Int × Int)}{ins inn:List Int}{out:Int}(hn:∀ s ∈ inn,0≤s)(he:∀ e ∈ ins,-(vars.length:Int)≤e)(ho:-(vars.length:Int)≤out)(hm:out < 0→out ∈ ins)(hl:ins.length=hood.length)(hi:inn.length=hood.length)(hd:hood.Nodup) :
  ∀ k:Nat,k≤8→(∀ j,j < k→∀ q ∈ hood,symP (j:Int) q ∈ hood)→IsMin (fun v=>∃ j,j < k∧ET vars ins out (turnedP hood (j:Int) inn) v) (toR (rdecTo hood vars ins out inn k))
 | 0,_,_=>by
  unfold rdecTo;exact IsMin.none fun v ⟨j,hj,_⟩=>absurd hj (Nat.not_lt_zero _)
 | k+1,hk,hc=>by
  have h1:=rdecTo_min (vars:=vars) (hood:=hood) hn he ho hm hl hi hd k (by omega) (fun j hj=>hc j (by omega));have hmem:=rturn_mem (k:=k) (by omega) hd (hc k (by omega)) hl;have h2:=exact_min (vars:=vars) (ins:=rturnTo hood (k:Int) ins ins.length) (out:=out) (inn:=inn) hn (fun e h=>he e ((hmem e).1 h)) ho (fun h=>(hmem out).2 (hm h)) (by rw[rturn_len,hl,hi]);have h3:=toR_or h1 h2;unfold rdecTo;refine h3.congr fun v=>⟨fun h=>?_,fun ⟨j,hj,h⟩=>?_⟩
  ·rcases h with ⟨j,hj,h⟩ | h
   ·exact⟨j,by omega,h⟩
   ·exact⟨k,by omega,(ET.turn (by omega) hd (hc k (by omega)) hl hi v).2 h⟩
  ·rcases Nat.lt_succ_iff_lt_or_eq.1 hj with hj | rfl
   ·exact .inl ⟨j,hj,h⟩
   ·exact .inr ((ET.turn (by omega) hd (hc j (by omega)) hl hi v).1 h)
end Go.Proofs.YtlegfdllipkggaaGreatDoor
