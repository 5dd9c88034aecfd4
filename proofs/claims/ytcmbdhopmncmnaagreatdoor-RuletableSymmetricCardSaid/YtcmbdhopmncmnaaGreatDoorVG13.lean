/-
  texts Open OpenT Laid SymP11 SymL11 Cpy11 LawS11: parts of the proof; conditions stand with each theorem.
-/
import Derived.Test.YtcmbdhopmncmnaaGreatDoorVG12
import Derived.Test.YtcmbdhopmncmnaaGreatDoorVG1
import Derived.Test.YtcmbdhopmncmnaaGreatDoorRows
import Derived.WalkKit
import Derived.ProofKit
import Derived.OpenShut
import Derived.HandedShaped
import Derived.Shelf.Vars
import Derived.Lib.LaidTab
import Derived.Stop.LaidErr
import Derived.Laws.IdiomArrays
import Derived.Deep.SlicePairs
import Derived.MakeChecks
import Derived.Below
import Derived.ChangeSame
import Derived.LaidMore
import Derived.Lay
import Derived.Deep.DeepHandedRow
import Derived.Test.YtcmbdhopmncmnaaGreatDoorVG8
import Derived.Test.YtcmbdhopmncmnaaGreatDoorVG4
import Derived.Test.YtcmbdhopmncmnaaGreatDoorVG5
import Derived.Test.YtcmbdhopmncmnaaGreatDoorVG0
import Derived.Laws.CopyOwn
import Derived.Test.YtcmbdhopmncmnaaGreatDoorVG6
namespace Go.Proofs.YtcmbdhopmncmnaaGreatDoor
set_option linter.unusedSimpArgs false
open Go.ChangeShapes Go.WideShapes Go.ChangeAt Go.RowKit Go.Deep
set_option maxRecDepth 100000
set_option linter.unusedVariables false

section
variable {H : Type} {enc : TypeId × Value → H} {P : Program}
theorem post_of_below {f:Func}{s:ChangeSpec}{apart fresh handsOn again:Bool}{W W':World}{args:Array Value}{v:Value}{ds gs:List (DataW H)}{before pa pv:List MemPlace}
  (hW:DataW.Whole enc P f.params.toList s.vars apart W args.toList ds gs before)
  (hres:∀ (b:Nat) (sp:Nat→Bool) (hd:Bool),DataW.TrodAll enc P W' b sp hd f.resultTypes.toList (v.resultList f.resultTypes.size) (s.fn H (ds ++ gs)).results [])
  (hargs:∀ sp:Nat→Bool,(∀ p ∈ before,sp p.block=true)→DataW.TrodAll enc P W' 0 sp true f.params.toList args.toList (s.fn H (ds ++ gs)).args pa)
  (hvars:∀ sp:Nat→Bool,(∀ p ∈ before,sp p.block=true)→DataW.TrodVars enc P W' sp s.vars (s.fn H (ds ++ gs)).vars pv)
  (hps:before=pa ++ pv) (hb:Below W.heap.size W W')
  (hok:∀ (j:Nat) (t:TypeId) (r:Value),f.resultTypes[j]?=some t→(v.resultList f.resultTypes.size)[j]?=some r→Value.okWide P W' .any 0 t r) :
  s.post enc P f apart fresh handsOn again W args v W':=by
 have hlt:∀ p ∈ before,p.block < W.heap.size:=fun p hp=>hW.lt p hp;have hold:∀ p ∈ before,(fun b=>decide (b < W.heap.size)) p.block=true:=fun p hp=>by simpa using hlt p hp
 refine⟨ds,gs,before,[],pa,pv,hW,hres _ _ _,hargs _ hold,hvars _ hold,World.keptBut_mono (fun p hp=>⟨hp,?_⟩) (hb.frame (· ∈ before)),fun _=>?_⟩
 ·rw[hps,List.mem_append] at hp;exact Or.inr hp
 ·obtain⟨_,_,_,_,_,hz,hn⟩:=hW;refine⟨hok,_,_,([] ++ pa) ++ pv,⟨[] ++ pa,pv,trodAll_append (hargs _ (fun _ _=>rfl)) (hres _ _ _),hvars _ (fun _ _=>rfl),rfl,?_,?_⟩,?_⟩
  ·intro b off hp;have hin:MemPlace.cell b off ∈ before:=by rw[hps];simpa using hp
   rw[hb.frozen (hlt _ hin)];exact hz b off hin
  ·intro ha;have:=hn ha;rw[hps] at this;simpa using this
  ·intro p hp _;rw[hps];simpa using hp
end
theorem Tryz.cellsInt:Tryz.prog.cellsOf 3=1:=by kernel_rfl
theorem Tryz.cellsPt:Tryz.prog.cellsOf 43=2:=by kernel_rfl
theorem Tryz.cellsIntsT:Tryz.prog.cellsOf 30=1:=by kernel_rfl
theorem Tryz.laidOut_:laidOutB Tryz.prog=true:=by kernel_rfl
theorem flat_lenO:∀ ps:List (Int × Int),(ps.flatMap ptCells).length=ps.length*2
 | []=>rfl
 | p :: r=>by rw[List.flatMap_cons,List.length_append,flat_lenO r];simp[ptCells];omega
section
variable {H : Type} {enc : TypeId × Value → H} {W : World}
theorem open_Ints {n:Nat}{v:Value}{x:DataW H × List MemPlace}(h:DataW.trod enc Tryz.prog W 0 (fun _=>true) true n 30 [v]=some x):∃ A c zs,v=.slice A (zs:List Int).length c∧Ints W A zs:=by
 rcases open_ints Tryz.underlying30 Tryz.underlying3 Tryz.cellsInt h with ⟨hcs,-⟩ | ⟨a,len,cap,zs,hcs,-,hl,hm,hz,-,hc,-⟩
 ·injection hcs with hcs
  exact⟨none,0,[],hcs,Ints.nil⟩
 ·injection hcs with hcs
  have hz':zs.length=cap:=by rw[hz];rfl
  refine⟨some a,cap,zs.take len,?_,⟨?_,fun hn=>⟨a,rfl,?_,fun j u hu=>?_⟩⟩,?_⟩
  ·rw[hcs,List.length_take,Nat.min_eq_left (by omega)]
  ·simp
  ·have h0:=hc 0 (by rw[List.length_take] at hn;omega);exact World.block_lt_of_cell? _ _ h0
  ·have hj:j < len:=by
    have:=(List.getElem?_eq_some_iff.1 hu).1;simp at this;omega
   have h1:=hc j (by omega);rw[h1];rw[List.getElem?_map,List.getElem?_take_of_lt hj,List.getElem?_eq_getElem (by omega)] at hu;have hj2:j < zs.length:=by omega
   simp[List.getD,List.getElem?_eq_getElem hj2] at hu ⊢;exact hu
  ·rw[List.length_take];unfold maxLen at hm;omega
theorem open_Pts {n:Nat}{v:Value}{x:DataW H × List MemPlace}(h:DataW.trod enc Tryz.prog W 0 (fun _=>true) true n 22 [v]=some x):∃ A c ps,v=.slice A (ps:List (Int × Int)).length c∧Pts W A ps:=by
 rcases open_slice_pairs Tryz.underlying22 Tryz.underlying43 Tryz.cellsPt rfl rfl Tryz.cellsInt Tryz.cellsInt h with ⟨hcs,-⟩ | ⟨a,len,cap,m,k,V0,V1,D0,D1,P0,P1,hcs,-,hl,hm,hmm,-,hx⟩
 ·injection hcs with hcs
  exact⟨none,0,[],hcs,Pts.nil⟩
 ·injection hcs with hcs
  have hmc:m=cap:=by rw[hmm];rfl
  have hx':∀ i,i < len→∃ p q:Int,W.cell? (a.add (i*2))=some (.int .i64 p)∧W.cell? (a.add (i*2+1))=some (.int .i64 q):=by
   intro i hi;obtain⟨g0,g1,d0,d1⟩:=hx i (by omega);obtain⟨p,e0,-,-⟩:=DataW.trod_int Tryz.underlying3 d0;obtain⟨q,e1,-,-⟩:=DataW.trod_int Tryz.underlying3 d1;injection e0 with e0
   injection e1 with e1
   rw[e0] at g0;rw[e1] at g1;exact⟨p,q,g0,g1⟩
  obtain⟨F,hF⟩:∃ F:Nat→Int × Int,∀ i,i < len→W.cell? (a.add (i*2))=some (.int .i64 (F i).1)∧W.cell? (a.add (i*2+1))=some (.int .i64 (F i).2):=by
   refine⟨fun i=>if hi:i < len then ⟨Classical.choose (hx' i hi),Classical.choose (Classical.choose_spec (hx' i hi))⟩ else (0,0),fun i hi=>?_⟩;simp only[hi,dif_pos];exact Classical.choose_spec (Classical.choose_spec (hx' i hi))
  refine⟨some a,cap,(List.range len).map F,?_,⟨?_,fun hn=>⟨a,rfl,?_,fun j u hu=>?_⟩⟩,?_⟩
  ·rw[hcs,List.length_map,List.length_range]
  ·rw[flat_lenO]
  ·have h0:=(hF 0 (by simpa using hn)).1;exact World.block_lt_of_cell? _ _ h0
  ·have hj:j < len*2:=by
    have:=(List.getElem?_eq_some_iff.1 hu).1;rw[flat_lenO] at this;simpa using this
   have hi:j / 2 < ((List.range len).map F).length:=by simp;omega
   obtain⟨f0,f1⟩:=flat2 ((List.range len).map F) (j / 2) hi;obtain⟨g0,g1⟩:=hF (j / 2) (by omega);have hg:((List.range len).map F)[j / 2]=F (j / 2):=by simp
   rw[hg] at f0 f1;rcases Nat.mod_two_eq_zero_or_one j with h2 | h2
   ·have ej:j=2*(j / 2):=by omega
    rw[ej] at hu ⊢;rw[f0] at hu;rw[Nat.mul_comm,g0];exact hu
   ·have ej:j=2*(j / 2)+1:=by omega
    rw[ej] at hu ⊢;rw[f1] at hu;rw[Nat.mul_comm,g1];exact hu
  ·rw[List.length_map,List.length_range];unfold maxLen at hm;omega
theorem open_IntsArg {r:Reach}{b0:Nat}{v:Value}{d:DataW H}{p:List MemPlace}(hv:Value.okWide Tryz.prog W r b0 30 v)(h:DataW.Trod enc Tryz.prog W 0 (fun _=>true) true 30 v d p):∃ A c zs,v=.slice A (zs:List Int).length c∧Ints W A zs:=by
 obtain⟨x,l,c,rfl⟩:=okWide_slice Tryz.underlying30 hv;obtain⟨fuel,hf⟩:=h;exact open_Ints hf
end
theorem Tryz.cellsRow:Tryz.prog.cellsOf 89=4:=by kernel_rfl
theorem Tryz.cellsMat:Tryz.prog.cellsOf 90=32:=by kernel_rfl
theorem mat_data {H:Type}:(Rows.laid_cellular_symmetry_matrices:DataW H)=.agg ((List.range 8).map fun i=>.agg ((List.range 4).map fun j=>.lit (.int .i64 (matL.getD (i*4+j) 0)))):=rfl
theorem gmat_of {w:World}(hL:laidMetH Tryz.prog Rows.ruletableRightRow.laid w):GMat w:=by
 rw [MakeChecks.laidMetH_plain _ _ _ (by kernel_rfl)] at hL; have h3 : laidMet Tryz.prog [("cellular/symmetry.matrices", Rows.laid_cellular_symmetry_matrices), ("cellular/ruletable.symNames", Rows.laid_cellular_ruletable_symNames), ("unicode/utf8.first", Rows.laid_unicode_utf8_first)] w := hL.tail.tail.tail.tail; obtain ⟨ps, ⟨g', t', cs, fuel, p, q, hg', ht', hvar, hd, -, -⟩, -⟩ := h3; have hg : Tryz.prog.globalNamed "cellular/symmetry.matrices" = some 1 := by kernel_rfl
 obtain rfl:=Option.some.inj (hg.symm.trans hg');have hty:(Tryz.prog.globals[1]?).map (·.type)=some 90:=by kernel_rfl
 obtain rfl:=Option.some.inj (hty.symm.trans ht');obtain⟨xs,m,-,hx,hlen,hxl,hel⟩:=DataW.trod_array Tryz.underlying90 hd;rw[Tryz.cellsMat] at hlen;rw[mat_data] at hx;have hx1:xs.map (·.1)=(List.range 8).map fun i=>(.agg ((List.range 4).map fun j=>.lit (.int .i64 (matL.getD (i*4+j) 0))):DataW Unit):=by
  injection hx with hx hx'
  injection hx with hx
  exact hx.symm
 have key:∀ i,i < 8→∀ j,j < 4→cs[i*4+j]?=some (.int .i64 (matL.getD (i*4+j) 0)):=by
  intro i hi j hj;have h1:=hel i hi;rw[Tryz.cellsRow] at h1;obtain⟨x,hxi⟩:∃ x,xs[i]?=some x:=⟨xs[i]'(by omega),List.getElem?_eq_getElem (by omega)⟩
  rw[hxi] at h1;have hxd:x.1=.agg ((List.range 4).map fun j=>.lit (.int .i64 (matL.getD (i*4+j) 0))):=by
   have:=congrArg (·[i]?) hx1;simp only[List.getElem?_map,hxi,List.getElem?_range hi,Option.map_some,Option.some.injEq] at this;exact this
  obtain⟨ys,m2,-,hy,hylen,hyl,hey⟩:=DataW.trod_array Tryz.underlying89 h1;have h2:=hey j hj;rw[Tryz.cellsInt] at h2;obtain⟨y,hyi⟩:∃ y,ys[j]?=some y:=⟨ys[j]'(by omega),List.getElem?_eq_getElem (by omega)⟩
  rw[hyi] at h2;have hy1:ys.map (·.1)=(List.range 4).map fun j=>(.lit (.int .i64 (matL.getD (i*4+j) 0)):DataW Unit):=by
   have:=congrArg Prod.fst hy;rw[hxd] at this;injection this with this
   exact this.symm
  have hyd:y.1=.lit (.int .i64 (matL.getD (i*4+j) 0)):=by
   have:=congrArg (·[j]?) hy1;simp only[List.getElem?_map,hyi,List.getElem?_range hj,Option.map_some,Option.some.injEq] at this;exact this
  obtain⟨z,e1,e2,-⟩:=DataW.trod_int Tryz.underlying3 h2;rw[e2] at hyd;injection hyd with hyd
  injection hyd with _ hyd
  have:=congrArg (·[0]?) e1;simp only[List.getElem?_take,List.getElem?_drop,List.getElem?_cons_zero] at this;rw[← hyd];simpa [hj] using this
 have hcell:=World.var?_cell hg hvar;have h0:w.cell? ⟨1,0,none⟩=some (.int .i64 (matL.getD 0 0)):=by
  rw[hcell 0];simpa using key 0 (by omega) 0 (by omega)
 refine⟨World.block_lt_of_cell? _ _ h0,fun i hi=>?_⟩;rw[hcell i];have:=key (i / 4) (by omega) (i % 4) (by omega);rw[show i / 4*4+i % 4=i by omega] at this;simpa using this
theorem Tryz.cellsStr11:Tryz.prog.cellsOf 9=1:=by kernel_rfl
theorem Tryz.cellsSym11:Tryz.prog.cellsOf 86=4:=by kernel_rfl
theorem sym_data {H:Type}:(Rows.laid_cellular_ruletable_symNames:DataW H)=.agg ((List.range 4).map fun j=>.lit (.string (symsW.getD j []))):=rfl
theorem symg_of {w:World}(hL:laidMetH Tryz.prog Rows.ruletableRightRow.laid w):SymG w:=by
 rw [MakeChecks.laidMetH_plain _ _ _ (by kernel_rfl)] at hL; have h3 : laidMet Tryz.prog [("cellular/ruletable.symNames", Rows.laid_cellular_ruletable_symNames), ("unicode/utf8.first", Rows.laid_unicode_utf8_first)] w := hL.tail.tail.tail.tail.tail; obtain ⟨ps, ⟨g', t', cs, fuel, p, q, hg', ht', hvar, hd, -, -⟩, -⟩ := h3; have hg : Tryz.prog.globalNamed "cellular/ruletable.symNames" = some 0 := by kernel_rfl
 obtain rfl:=Option.some.inj (hg.symm.trans hg');have hty:(Tryz.prog.globals[0]?).map (·.type)=some 86:=by kernel_rfl
 obtain rfl:=Option.some.inj (hty.symm.trans ht');obtain⟨xs,m,-,hx,hlen,hxl,hel⟩:=DataW.trod_array Tryz.underlying86 hd;rw[Tryz.cellsSym11] at hlen;rw[sym_data] at hx;have hx1:xs.map (·.1)=(List.range 4).map fun j=>(.lit (.string (symsW.getD j [])):DataW Unit):=by
  injection hx with hx hx'
  injection hx with hx
  exact hx.symm
 have key:∀ j,j < 4→cs[j]?=some (.string ⟨(symsW.getD j []).toArray⟩):=by
  intro j hj;have h2:=hel j hj;rw[Tryz.cellsStr11] at h2;obtain⟨y,hyi⟩:∃ y,xs[j]?=some y:=⟨xs[j]'(by omega),List.getElem?_eq_getElem (by omega)⟩
  rw[hyi] at h2;have hyd:y.1=.lit (.string (symsW.getD j [])):=by
   have:=congrArg (·[j]?) hx1;simp only[List.getElem?_map,hyi,List.getElem?_range hj,Option.map_some,Option.some.injEq] at this;exact this
  obtain⟨z,e1,e2,-⟩:=DataW.trod_string Tryz.underlying9 h2;rw[e2] at hyd;injection hyd with hyd
  injection hyd with hyd
  have:=congrArg (·[0]?) e1;simp only[List.getElem?_take,List.getElem?_drop,List.getElem?_cons_zero] at this;have hz:z=⟨(symsW.getD j []).toArray⟩:=by rw[← hyd]
  rw[← hz];simpa using this
 have hcell:=World.var?_cell hg hvar;have hc:∀ j,j < 4→w.cell? ⟨0,j,none⟩=some (.string ⟨(symsW.getD j []).toArray⟩):=fun j hj=>by rw[hcell j];exact key j hj
 have hl4:symsW.length=4:=by decide
 refine⟨⟨by simp[symsB],fun hn=>⟨⟨0,0,none⟩,rfl,World.block_lt_of_cell? _ _ (hc 0 (by omega)),fun j u hu=>?_⟩⟩,by simp[symsB,hl4]⟩;have hj:j < 4:=by
  have:=(List.getElem?_eq_some_iff.1 hu).1;simpa [symsB,hl4] using this
 have:=hc j hj;rw[addr_add,Nat.zero_add,this,← hu];simp[symsB,List.getElem?_map,List.getD,List.getElem?_eq_getElem (show j < symsW.length by omega)]
theorem env_of {w:World}(h:w.ShapedOpen Tryz.prog)(hL:laidMetH Tryz.prog Rows.ruletableRightRow.laid w):Env w:=by
 have hc:GCell w:=cell_of_shapedOpen_int (t:=3) (zero:=#[.int .i64 0]) h (of_decide_eq_true (by kernel_rfl)) (by kernel_rfl) rfl (by kernel_rfl) (by kernel_rfl) Tryz.underlying3;obtain⟨m,hm⟩:=hc;exact⟨⟨m,hm⟩,gmat_of hL,symg_of hL,World.block_lt_of_cell? _ _ hm⟩
theorem Tryz.cellsRowT:Tryz.prog.cellsOf 48=2:=by kernel_rfl
theorem Tryz.cellsTab:Tryz.prog.cellsOf 26=5:=by kernel_rfl
theorem Tryz.cellsPts15:Tryz.prog.cellsOf 22=1:=by kernel_rfl
theorem Tryz.cellsVrs15:Tryz.prog.cellsOf 23=1:=by kernel_rfl
theorem Tryz.cellsRws15:Tryz.prog.cellsOf 24=1:=by kernel_rfl
theorem array5 {α:Type}{cs:Array α}(h:cs.size=5):∃ c0 c1 c2 c3 c4,cs=#[c0,c1,c2,c3,c4]:=by
 obtain⟨l⟩:=cs
 match l,h with
 | [c0,c1,c2,c3,c4],_=>exact⟨c0,c1,c2,c3,c4,rfl⟩
section
variable {H : Type} {enc : TypeId × Value → H} {W : World}
theorem open_Rws {n:Nat}{v:Value}{x:DataW H × List MemPlace}(h:DataW.trod enc Tryz.prog W 0 (fun _=>true) true n 24 [v]=some x):∃ A c hs,v=.slice A (hs:List Rh).length c∧Rws W A hs:=by
 rcases open_slice Tryz.underlying24 h with ⟨hcs,-⟩ | ⟨a,len,cap,m,k,D,Pl,hcs,-,hl,hm,hmm,-,hx⟩
 ·injection hcs with hcs
  exact⟨none,0,[],hcs,Rws.nil⟩
 ·injection hcs with hcs
  have hmc:m=cap:=by rw[hmm];rfl
  have hx':∀ i,i < len→∃ q:Rh,W.cell? (a.add (i*2))=some (.slice q.A q.zs.length q.c)∧W.cell? (a.add (i*2+1))=some (.int .i64 q.out)∧Ints W q.A q.zs:=by
   intro i hi;obtain⟨cs',h1,h2⟩:=hx i (by omega);rw[Tryz.cellsRowT] at h1;obtain⟨_,hlen,hcell⟩:=World.cells?_some h1;obtain⟨xs,k2,hk,hxy,_,hxl,hf⟩:=DataW.trod_struct Tryz.underlying48 h2
   match xs,hxl,cs',hlen with
   | [y0,y1],_,[v0,v1],_=>
    have g0:=hf 0 _ rfl;have g1:=hf 1 _ rfl;simp[Tryz.cellsIntsT] at g0;simp[Tryz.cellsInt] at g1;have e0:=hcell 0 (by omega);have e1:=hcell 1 (by omega);rw[add_add] at e0 e1;obtain⟨p,r0,-,-⟩:=DataW.trod_int Tryz.underlying3 g1;injection r0 with r0
    subst r0;obtain⟨A,c,zs,rfl,hi'⟩:=open_Ints g0;exact⟨⟨A,c,zs,p⟩,by simpa using e0,by simpa using e1,hi'⟩
  obtain⟨F,hF⟩:∃ F:Nat→Rh,∀ i,i < len→W.cell? (a.add (i*2))=some (.slice (F i).A (F i).zs.length (F i).c)∧W.cell? (a.add (i*2+1))=some (.int .i64 (F i).out)∧Ints W (F i).A (F i).zs:=by
   refine⟨fun i=>if hi:i < len then Classical.choose (hx' i hi) else ⟨none,0,[],0⟩,fun i hi=>?_⟩;simp only[hi,dif_pos];exact Classical.choose_spec (hx' i hi)
  refine⟨some a,cap,(List.range len).map F,?_,⟨?_,fun hn=>⟨a,rfl,?_,fun j u hu=>?_⟩⟩,?_,?_⟩
  ·rw[hcs,List.length_map,List.length_range]
  ·rw[rh_len]
  ·have h0:=(hF 0 (by simpa using hn)).1;exact World.block_lt_of_cell? _ _ h0
  ·have hj:j < len*2:=by
    have:=(List.getElem?_eq_some_iff.1 hu).1;rw[rh_len] at this;simpa using this
   have hi:j / 2 < ((List.range len).map F).length:=by simp;omega
   obtain⟨f0,f1⟩:=rh2 ((List.range len).map F) (j / 2) hi;obtain⟨g0,g1,-⟩:=hF (j / 2) (by omega);have hg:((List.range len).map F)[j / 2]=F (j / 2):=by simp
   rw[hg] at f0 f1;rcases Nat.mod_two_eq_zero_or_one j with h2 | h2
   ·have ej:j=2*(j / 2):=by omega
    rw[ej] at hu ⊢;rw[f0] at hu;rw[Nat.mul_comm,g0];exact hu
   ·have ej:j=2*(j / 2)+1:=by omega
    rw[ej] at hu ⊢;rw[f1] at hu;rw[Nat.mul_comm,g1];exact hu
  ·rw[List.length_map,List.length_range];unfold maxLen at hm;omega
  ·intro q hq;obtain⟨i,hi,rfl⟩:=List.mem_map.1 hq;exact (hF i (by simpa using hi)).2.2
theorem open_Vrs {n:Nat}{v:Value}{x:DataW H × List MemPlace}(h:DataW.trod enc Tryz.prog W 0 (fun _=>true) true n 23 [v]=some x):∃ A c hs,v=.slice A (hs:List Vh).length c∧Vrs W A hs:=by
 rcases open_slice Tryz.underlying23 h with ⟨hcs,-⟩ | ⟨a,len,cap,m,k,D,Pl,hcs,-,hl,hm,hmm,-,hx⟩
 ·injection hcs with hcs
  exact⟨none,0,[],hcs,Vrs.nil⟩
 ·injection hcs with hcs
  have hmc:m=cap:=by rw[hmm];rfl
  have hx':∀ i,i < len→∃ q:Vh,W.cell? (a.add i)=some (.slice q.A q.zs.length q.c)∧Ints W q.A q.zs:=by
   intro i hi;obtain⟨cs',h1,h2⟩:=hx i (by omega);rw[Tryz.cellsIntsT] at h1;obtain⟨_,hlen,hcell⟩:=World.cells?_some h1
   match cs',hlen with
   | [v0],_=>
    have e0:=hcell 0 (by omega);rw[add_add] at e0;obtain⟨A,c,zs,rfl,hi'⟩:=open_Ints h2;exact⟨⟨A,c,zs⟩,by simpa using e0,hi'⟩
  obtain⟨F,hF⟩:∃ F:Nat→Vh,∀ i,i < len→W.cell? (a.add i)=some (.slice (F i).A (F i).zs.length (F i).c)∧Ints W (F i).A (F i).zs:=by
   refine⟨fun i=>if hi:i < len then Classical.choose (hx' i hi) else ⟨none,0,[]⟩,fun i hi=>?_⟩;simp only[hi,dif_pos];exact Classical.choose_spec (hx' i hi)
  refine⟨some a,cap,(List.range len).map F,?_,⟨?_,fun hn=>⟨a,rfl,?_,fun j u hu=>?_⟩⟩,?_,?_⟩
  ·rw[hcs,List.length_map,List.length_range]
  ·rw[vh_len]
  ·have h0:=(hF 0 (by simpa using hn)).1;exact World.block_lt_of_cell? _ _ h0
  ·have hj:j < len:=by
    have:=(List.getElem?_eq_some_iff.1 hu).1;rw[vh_len] at this;simpa using this
   have f0:=vh1 ((List.range len).map F) j (by simpa using hj);have hg:((List.range len).map F)[j]'(by simpa using hj)=F j:=by simp
   rw[hg] at f0;rw[f0] at hu;rw[(hF j hj).1];exact hu
  ·rw[List.length_map,List.length_range];unfold maxLen at hm;omega
  ·intro q hq;obtain⟨i,hi,rfl⟩:=List.mem_map.1 hq;exact (hF i (by simpa using hi)).2
theorem open_TabArg {r:Reach}{b0:Nat}{v:Value}{d:DataW H}{p:List MemPlace}(hv:Value.okWide Tryz.prog W r b0 26 v)(h:DataW.Trod enc Tryz.prog W 0 (fun _=>true) true 26 v d p) :
  ∃ (t:TabH) (hA vA rA:Option Addr) (hc vc rc:Nat),v=tabV hA hc vA vc rA rc t∧TabR W hA vA rA t:=by
 obtain⟨cs,rfl,hsz⟩:=okWide_struct Tryz.underlying26 hv;obtain⟨c0,c1,c2,c3,c4,rfl⟩:=array5 (hsz.trans Tryz.cellsTab);obtain⟨fuel,hf⟩:=h;obtain⟨xs,k2,hk,hxy,_,hxl,hg⟩:=DataW.trod_struct Tryz.underlying26 hf
 match xs,hxl with
 | [y0,y1,y2,y3,y4],_=>
  have g0:=hg 0 _ rfl;have g1:=hg 1 _ rfl;have g2:=hg 2 _ rfl;have g3:=hg 3 _ rfl;have g4:=hg 4 _ rfl;simp[Value.cells,Tryz.cellsInt] at g0 g1;simp[Value.cells,Tryz.cellsPts15] at g2;simp[Value.cells,Tryz.cellsVrs15] at g3;simp[Value.cells,Tryz.cellsRws15] at g4;obtain⟨s,e0,-,-⟩:=DataW.trod_int Tryz.underlying3 g0;injection e0 with e0
  subst e0;obtain⟨m,e1,-,-⟩:=DataW.trod_int Tryz.underlying3 g1;injection e1 with e1
  subst e1;obtain⟨hA,hc,ps,rfl,hp⟩:=open_Pts g2;obtain⟨vA,vc,vs,rfl,hv'⟩:=open_Vrs g3;obtain⟨rA,rc,rs,rfl,hr⟩:=open_Rws g4;exact⟨⟨s,m,ps,vs,rs⟩,hA,vA,rA,hc,vc,rc,rfl,hp,hv',hr⟩
end
end Go.Proofs.YtcmbdhopmncmnaaGreatDoor
namespace Go.Proofs.YtcmbdhopmncmnaaGreatDoor
set_option linter.unusedSimpArgs false
set_option linter.unusedVariables false
open Go.ChangeShapes Go.WideShapes Go.ChangeAt Go.RowKit
set_option maxRecDepth 1000000

noncomputable def laidW (os:Os):World:=World.laidAll Tryz.prog os Rows.ruletableRightRow.laid
theorem laidW_os (os:Os):(laidW os).os=os:=World.laidAll_os _ _ _
theorem laidW_shaped (os:Os)(args:Array Value):((laidW os).forCall (fun _ _=>0) ⟨#[],args,[]⟩).Shaped Tryz.prog:=World.shaped_of_ZipB (by kernel_rfl) (by kernel_rfl)
theorem laidW_met (os:Os)(args:Array Value):laidMetH Tryz.prog Rows.ruletableRightRow.laid ((laidW os).forCall (fun _ _=>0) ⟨#[],args,[]⟩).memory:=by
 rw[MakeChecks.laidMetH_plain _ _ _ (by kernel_rfl)];exact laidMet_laidAll _ (by kernel_rfl) (by kernel_rfl)
theorem laidW_witness {H:Type}{enc:TypeId × Value→H}{f:FuncId}{fn:Func}{s:OpenSpec}{conds:List PathCond}{apart:Bool}(os:Os)(args:Array Value)
  (hok:Input.okWideB Tryz.checked.prog ((laidW os).forCall (fun _ _=>0) ⟨#[],args,[]⟩) f ⟨#[],args,[]⟩=true)
  (hrow:s.preRow enc Tryz.checked.prog fn conds apart Rows.ruletableRightRow.laid ((laidW os).forCall (fun _ _=>0) ⟨#[],args,[]⟩).memory args) :
  ∃ (w:World) (tape:Tape) (i:Input),w.os=os∧(w.forCall tape i).Shaped Tryz.checked.prog∧i.vars=[]∧Input.okWide Tryz.checked.prog (w.forCall tape i) .any w.heap.size f i∧
   s.preRow enc Tryz.checked.prog fn conds apart Rows.ruletableRightRow.laid (w.forCall tape i).memory i.args∧({}:Assume).holds Tryz.checked.prog (lone (Frame.enter Tryz.checked.prog f i.args .normal) [] (w.forCall tape i)):=
 ⟨laidW os,fun _ _=>0,⟨#[],args,[]⟩,laidW_os os,laidW_shaped os args,(Input.okWide_of_okWideB (base:=0) hok).1,(Input.okWide_of_okWideB hok).2,hrow,by
  simp only[Assume.holds];exact⟨by simp,by simp,fun _=>Modest.zero,by simp,by simp⟩⟩
end Go.Proofs.YtcmbdhopmncmnaaGreatDoor
namespace Go.Proofs.YtcmbdhopmncmnaaGreatDoor
set_option linter.unusedVariables false
set_option linter.unusedSimpArgs false
theorem next_parts {t:TabL}{inn:List Int}(h:(nextT t inn).2=0):rightTab t=true∧inn.length=t.hood.length∧statesB t.st inn=true∧(nextT t inn).1=valT t inn:=by
 unfold nextT at h ⊢;by_cases h1:rightTab t=false∨inn.length≠t.hood.length
 ·rw[if_pos h1] at h;exact absurd h (by decide)
 ·rw[if_neg h1] at h ⊢;by_cases h2:statesB t.st inn=false
  ·rw[if_pos h2] at h;exact absurd h (by decide)
  ·rw[if_neg h2];have h3:=not_or.1 h1;exact⟨by simpa using h3.1,Decidable.not_not.1 h3.2,by simpa using h2,rfl⟩
theorem next_mk {t:TabL}{inn:List Int}(h1:rightTab t=true)(h2:inn.length=t.hood.length)(h3:statesB t.st inn=true):nextT t inn=(valT t inn,0):=by
 unfold nextT;rw[if_neg (by rw[h1];simp[h2]),if_neg (by rw[h3];simp)]
theorem states_of {st:Int}{inn tn:List Int}(h:statesB st inn=true)(hm:∀ s ∈ tn,s ∈ inn):statesB st tn=true:=by
 unfold statesB at h ⊢;simp only[Bool.not_eq_true',List.any_eq_false] at h ⊢;exact fun x hx=>h x (hm x hx)
theorem next_swap {t:TabL}{inn:List Int}(hs:t.sym=3)(h:(nextT t inn).2=0){a b:Nat}(ha:a < inn.length)(hb:b < inn.length)(hac:(a:Int)≠ctrP t.hood)(hbc:(b:Int)≠ctrP t.hood):nextT t (swapL inn a b)=nextT t inn:=by
 obtain⟨h1,h2,h3,-⟩:=next_parts h;rw[next_mk h1 h2 h3,next_mk h1 (by rw[swapL_len,h2]) (states_of h3 (swapL_mem ha hb)),val_swap h1 hs (fun s hs=>(statesB_mem h3 s hs).1) h2 ha hb hac hbc]
theorem next_turn {t:TabL}{inn tn:List Int}(hs:t.sym=1∨t.sym=2)(h:(nextT t inn).2=0){n:Nat}(hn:n < nSym t.sym)(hc:∀ q ∈ t.hood,symP (n:Int) q ∈ t.hood)(hd:t.hood.Nodup)(ht:TurnOf t.hood n inn tn):nextT t tn=nextT t inn:=by
 obtain⟨h1,h2,h3,-⟩:=next_parts h;have hn8:n < 8:=by unfold nSym at hn;rcases hs with e | e <;> rw[e] at hn <;> simp at hn <;> omega
 rw[next_mk h1 h2 h3,next_mk h1 ht.1 (states_of h3 (turn_mem hn8 hd hc h2 ht)),val_turn h1 hs (fun s hs=>(statesB_mem h3 s hs).1) h2 hn ht]
theorem next_rng {t:TabL}{inn:List Int}(h:(nextT t inn).2=0):(nextT t inn).1 ∈ ([0,1,2,3,4,5,6,7]:List Int):=by
 obtain⟨h1,h2,h3,h4⟩:=next_parts h;obtain⟨h5,h6⟩:=val_rng h1 (symOk t.sym) (statesB_mem h3) h2;have h8:=(rightTab_parts h1).1.2;rw[h4];simp only[List.mem_cons,List.not_mem_nil,or_false];omega
def putL (hood:List (Int × Int))(q:Int × Int)(v:Int):Nat→List Int→List Int
 | 0,l=>l
 | m+1,l=>if hood.getD m (0,0)=q then (putL hood q v m l).set m v else putL hood q v m l
def hasQ (hood:List (Int × Int))(q:Int × Int):Nat→Bool
 | 0=>false
 | m+1=>if hood.getD m (0,0)=q then true else hasQ hood q m
def turnL (hood:List (Int × Int))(n:Nat)(inn:List Int):Nat→List Int
 | 0=>inn
 | i+1=>putL hood (symP (n:Int) (hood.getD i (0,0))) (inn.getD i 0) hood.length (turnL hood n inn i)
theorem putL_len (hood:List (Int × Int))(q:Int × Int)(v:Int):∀ (m:Nat)(l:List Int),(putL hood q v m l).length=l.length
 | 0,l=>rfl
 | m+1,l=>by
  unfold putL
  split
  ·rw[List.length_set,putL_len]
  ·exact putL_len hood q v m l
theorem turnL_len (hood:List (Int × Int))(n:Nat)(inn:List Int):∀ i,(turnL hood n inn i).length=inn.length
 | 0=>rfl
 | i+1=>by unfold turnL;rw[putL_len,turnL_len hood n inn i]
theorem hasQ_true {hood:List (Int × Int)}{q:Int × Int}:∀ {m:Nat},(∃ j,j < m∧hood.getD j (0,0)=q)→hasQ hood q m=true
 | 0,h=>by obtain⟨j,hj,-⟩:=h;omega
 | m+1,h=>by
  unfold hasQ
  split
  ·rfl
  ·rename_i hm;obtain⟨j,hj,e⟩:=h;exact hasQ_true ⟨j,by rcases Nat.lt_succ_iff_lt_or_eq.1 hj with h1 | h1;exact h1;rw[h1] at e;exact absurd e hm,e⟩
theorem hasQ_mem {hood:List (Int × Int)}{q:Int × Int}(h:q ∈ hood):hasQ hood q hood.length=true:=by
 obtain⟨j,hj,e⟩:=List.getElem_of_mem h;exact hasQ_true ⟨j,hj,by rw[List.getD_eq_getElem?_getD,List.getElem?_eq_getElem hj];exact e⟩
theorem putL_get (hood:List (Int × Int))(q:Int × Int)(v:Int):∀ (m:Nat)(l:List Int)(j:Nat),m≤l.length→(putL hood q v m l).getD j 0=if j < m∧hood.getD j (0,0)=q then v else l.getD j 0
 | 0,l,j,_=>by unfold putL;rw[if_neg (by omega)]
 | m+1,l,j,hm=>by
  have ih:=putL_get hood q v m l j (by omega);unfold putL
  split
  ·rename_i h1;by_cases hj:j=m
   ·subst hj;rw[if_pos ⟨by omega,h1⟩,List.getD_eq_getElem?_getD,List.getElem?_set_self (by rw[putL_len];omega)];rfl
   ·rw[List.getD_eq_getElem?_getD,List.getElem?_set_ne (by omega),← List.getD_eq_getElem?_getD,ih];by_cases h2:j < m∧hood.getD j (0,0)=q
    ·rw[if_pos h2,if_pos ⟨by omega,h2.2⟩]
    ·rw[if_neg h2,if_neg (fun h=>h2 ⟨by omega,h.2⟩)]
  ·rename_i h1;rw[ih];by_cases h2:j < m∧hood.getD j (0,0)=q
   ·rw[if_pos h2,if_pos ⟨by omega,h2.2⟩]
   ·rw[if_neg h2,if_neg (fun h=>by
     by_cases hj:j=m
     ·rw[hj] at h;exact h1 h.2
     ·exact h2 ⟨by omega,h.2⟩)]
theorem turnL_of {hood:List (Int × Int)}{n:Nat}{inn:List Int}(hi:inn.length=hood.length)(hd:hood.Nodup)(hinj:∀ p q,symP (n:Int) p=symP (n:Int) q→p=q) :
  ∀ i,i≤hood.length→∀ i' (h':i' < hood.length),i' < i→∀ j (hj:j < hood.length),hood[j]=symP (n:Int) hood[i']→(turnL hood n inn i).getD j 0=inn.getD i' 0
 | 0,_,i',_,h,_,_,_=>by omega
 | i+1,hl,i',h',h,j,hj,e=>by
  have gd:∀ k (hk:k < hood.length),hood.getD k (0,0)=hood[k]:=fun k hk=>by rw[List.getD_eq_getElem?_getD,List.getElem?_eq_getElem hk];rfl
  unfold turnL;rw[putL_get _ _ _ _ _ _ (by rw[turnL_len];omega),gd j hj,gd i (by omega)];by_cases hii:i'=i
  ·subst hii;rw[if_pos ⟨hj,e⟩]
  ·rw[if_neg (fun hx=>by
    have:=hinj _ _ (e.symm.trans hx.2);exact hii ((List.getElem_inj hd).1 this))]
   exact turnL_of hi hd hinj i (by omega) i' h' (by omega) j hj e
theorem turnL_turn {hood:List (Int × Int)}{n:Nat}{inn:List Int}(hi:inn.length=hood.length)(hd:hood.Nodup)(hinj:∀ p q,symP (n:Int) p=symP (n:Int) q→p=q):TurnOf hood n inn (turnL hood n inn hood.length):=
 ⟨by rw[turnL_len,hi],fun i h j hj e=>turnL_of hi hd hinj _ (Nat.le_refl _) i h h j hj e⟩
end Go.Proofs.YtcmbdhopmncmnaaGreatDoor
namespace Go.Proofs.YtcmbdhopmncmnaaGreatDoor
open Go.RowKit
set_option linter.unusedVariables false
set_option linter.unusedSimpArgs false
theorem wpList_copyRow {P:Program}{w w0:World}{ops:Array Oper}{rest:List Oper}{o:Oper}{a:Act}{Q:Exit→Act→World→Prop}(hgd:o.guard=none)(d s:Operand)(dT sT:TypeId)
  (ho:o.op=.call { callee:=.builtin .copy,args:=#[d,s],argTypes:=#[dT,sT] }) (I:TypeId) (hu:P.underlying dT=some (.slice I)) (hsz:(P.info? I).map (·.size)=some 1)
  (g n c base:Nat) (ys zs:List Int) (sp:Option Addr) (hd:a.eval d=.slice (some ⟨g,0,none⟩) n n) (hs:a.eval s=.slice sp n c)
  (hy:OwnI I w base (.slice (some ⟨g,0,none⟩) n n) ys) (hyl:ys.length=n) (hz:Ints w sp zs) (hzl:zs.length=n) (hb:Below base w0 w)
  (h:∀ w',OwnI I w' base (.slice (some ⟨g,0,none⟩) n n) zs→Below base w0 w'→wpList P ops Q rest (a.put o.dst (goInt n)) w'):wpList P ops Q (o :: rest) a w:=by
 obtain⟨h1,h2⟩:=hy;rcases h2 with ⟨e,-⟩ | ⟨g',cap,cur,e,h4,h5,h6,h7,h8,h9⟩
 ·cases e
 ·injection e with e1 e2 e3
  injection e1 with e1
  injection e1 with e1
  subst e1 e3;have hcl:(zs.map (Value.int .i64)).length=n:=by rw[List.length_map,hzl]
  have hcur:cur.toList.length=n:=by rw[Array.length_toList,h8];omega
  have hsp:splice cur.toList 0 (zs.map (Value.int .i64))=zs.map (Value.int .i64):=by
   unfold splice;rw[hcl,List.take_zero,Nat.zero_add,List.drop_eq_nil_of_le (by omega)]
   simp
  refine wpList_copy_splice hgd d s dT sT ho I hu hsz _ _ n n n c hd hs g 0 cur.toList I (by simpa using h5) (zs.map (Value.int .i64)) (by rw[hcl];exact (Nat.min_self n).symm) (fun hp=>⟨rfl,?_⟩) (by rw[hcl,hcur];omega) ?_ base w0 hb h4 ?_
  ·obtain⟨ad,e',-,h'⟩:=hz.1.2 (by rw[hzl];omega);exact⟨ad,e',h'⟩
  ·intro v hv;obtain⟨z,-,rfl⟩:=List.mem_map.1 hv;rfl
  ·intro w' hg' hb';rw[hsp] at hg';have:=h w' ?_ hb'
   ·rw[hcl];exact this
   ·unfold OwnI;rw[hzl];exact⟨by rw[hcl];omega,.inr ⟨g,n,_,rfl,h4,hg'.out,Nat.le_refl _,h7,by simp[hzl],by rw[Nat.mul_one];exact List.take_of_length_le (by rw[hcl];exact Nat.le_refl _)⟩⟩
end Go.Proofs.YtcmbdhopmncmnaaGreatDoor
namespace Go.Proofs.YtcmbdhopmncmnaaGreatDoor
open Lib(hid)
open Go.RowKit Go.Maps
set_option maxRecDepth 100000
set_option linter.unusedVariables false
set_option linter.unusedSimpArgs false
theorem Tryz.sizeInt:(Tryz.prog.info? 3).map (·.size)=some 1:=by kernel_rfl
theorem wrap_id {z:Int}(h:-9223372036854775808≤z∧z≤9223372036854775807):wrap64 z=z:=by unfold wrap64;omega
theorem i64_id (z:Int)(h1:-9223372036854775808≤z)(h2:z≤9223372036854775807):IntKind.i64.wrap z=z:=IntWalk.i64_in _ ⟨h1,h2⟩
theorem u8_quo16 {k:Int}(h1:0≤k)(h2:k≤255):IntKind.u8.wrap (k.tdiv 16)=k / 16:=IntWalk.u8_quo k 16 ⟨h1,h2,by decide⟩
theorem meas_stepS {n k:Nat}(h:k < n):n - (intOf (.int .i64 ((k:Int)+1))).toNat < n - (intOf (.int .i64 (k:Int))).toNat:=by
 show n - ((k:Int)+1).toNat < n - (k:Int).toNat;omega
theorem permP_symS {ps:List (Int × Int)}{sym:Int}(h:permP ps sym=true):sym=0∨sym=1∨sym=2∨sym=3:=by
 unfold permP at h;by_cases h0:sym=0
 ·exact .inl h0
 by_cases h1:sym=1
 ·exact .inr (.inl h1)
 by_cases h2:sym=2
 ·exact .inr (.inr (.inl h2))
 by_cases h3:sym=3
 ·exact .inr (.inr (.inr h3))
 rw[if_neg h0,if_neg h1,if_neg h2,if_neg h3] at h;exact absurd h (by decide)
theorem sym8 {sym:Int}{n:Nat}(h:n < nSym sym):n < 8:=by
 unfold nSym at h
 split at h
 ·omega
 ·split at h <;> omega
theorem putL_hit {hood:List (Int × Int)}{q:Int × Int}{v:Int}{m:Nat}{l:List Int}(h:hood.getD m (0,0)=q):putL hood q v (m+1) l=(putL hood q v m l).set m v:=by rw[putL,if_pos h]
theorem putL_miss {hood:List (Int × Int)}{q:Int × Int}{v:Int}{m:Nat}{l:List Int}(h:hood.getD m (0,0)≠q):putL hood q v (m+1) l=putL hood q v m l:=by rw[putL,if_neg h]
theorem hasQ_hit {hood:List (Int × Int)}{q:Int × Int}{m:Nat}(h:hood.getD m (0,0)=q):hasQ hood q (m+1)=true:=by rw[hasQ,if_pos h]
theorem hasQ_miss {hood:List (Int × Int)}{q:Int × Int}{m:Nat}(h:hood.getD m (0,0)≠q):hasQ hood q (m+1)=hasQ hood q m:=by rw[hasQ,if_neg h]
theorem turnL_next {hood:List (Int × Int)}{q:Int × Int}{n i:Nat}{inn:List Int}(h:symP (n:Int) (hood.getD i (0,0))=q):turnL hood n inn (i+1)=putL hood q (inn.getD i 0) hood.length (turnL hood n inn i):=by rw[turnL,h]
theorem lit8 (w:World):OwnIA (w.alloc (.cells #[.int .i64 0,.int .i64 1,.int .i64 2,.int .i64 3,.int .i64 4,.int .i64 5,.int .i64 6,.int .i64 7] 3)) w.heap.size (.slice (some ⟨w.heap.size,0,none⟩) 8 8) [0,1,2,3,4,5,6,7]:=
 World.ownsRow_lit (base:=w.heap.size) (e:=3) (size:=1) w #[.int .i64 0,.int .i64 1,.int .i64 2,.int .i64 3,.int .i64 4,.int .i64 5,.int .i64 6,.int .i64 7] 8 (Nat.le_refl _) (by decide) rfl
theorem has8 (w:World)(n:Int)(h:n ∈ ([0,1,2,3,4,5,6,7]:List Int)):Calls Tryz.prog 24 #[.slice (some ⟨w.heap.size,0,none⟩) 8 8,.int .i64 n] (w.alloc (.cells #[.int .i64 0,.int .i64 1,.int .i64 2,.int .i64 3,.int .i64 4,.int .i64 5,.int .i64 6,.int .i64 7] 3)) fun e w'=>e=.returned (.bool true)∧Below w.heap.size w w':=
 (has_any _ _ 8 n _ (lit8 w).reads).mono fun e w' hx=>⟨by rw[hx.1,decide_eq_true h],by rw[hx.2];exact below_new _ _⟩
set_option maxHeartbeats 16000000 in
theorem lawSym_any (hA1:Option Addr)(hc1:Nat)(vA1:Option Addr)(vc1:Nat)(rA1:Option Addr)(rc1:Nat)(t:TabH)(iA:Option Addr)(ic:Nat)(inn:List Int)(k:Int)(w:World)(hr:TabR w hA1 vA1 rA1 t)(hi:Ints w iA inn)(hk:0≤k∧k≤255)(he:Env w) :
  Calls Tryz.prog 7 #[.agg #[.int .i64 t.st,.int .i64 t.sym,.slice hA1 t.hood.length hc1,.slice vA1 t.vs.length vc1,.slice rA1 t.rs.length rc1],.slice iA inn.length ic,.int .u8 k] w fun e w'=>e=.returned (.bool true)∧Below w.heap.size w w':=by
 have HENV:=hid he;have HI:=hid hi;have HK:=hid hk;have HB:Hid (Below w.heap.size w w):=hid (Below.refl _ _);clear he hi hk;obtain⟨nt,hnt⟩:∃ r,r=nextT t.tab inn:=⟨_,rfl⟩
 have HNT:=hid hnt.symm;clear hnt;obtain⟨na,nb⟩:=nt;cases hf:few11 t.tab with
 | false=>
  have HFT:=hid hf;clear hf;go_enter Tryz.func7,Tryz.ntmps7;obtain⟨zT,hw⟩:∃ W,W=w.alloc (.cells #[.int .i64 t.st,.int .i64 t.sym,.slice hA1 t.hood.length hc1,.slice vA1 t.vs.length vc1,.slice rA1 t.rs.length rc1] 26):=⟨_,rfl⟩
  obtain⟨pT,hp⟩:∃ p,p=w.heap.size:=⟨_,rfl⟩
  have hv:=TvB.new (hc:=hc1) (vc:=vc1) (rc:=rc1) hr;rw[← hw,← hp] at hv;have hb:Below w.heap.size w zT:=by rw[hw];exact below_new _ _
  replace HB:=hid (HB.out.trans (hb.mono HB.out.size));replace HENV:=hid (HENV.out.ext hb);replace HI:=hid (HI.out.ext hb);have HT:=hid hv;clear hv hb hr;go_upto_region 1 with fail
  rw[← hw,← hp];clear hw hp;have cT0:zT.cell? ⟨pT,0,none⟩=some (.int .i64 t.st):=HT.out.cells.1;have cT1:zT.cell? ⟨pT,1,none⟩=some (.int .i64 t.sym):=HT.out.cells.2.1;have cT2:zT.cell? ⟨pT,2,none⟩=some (.slice hA1 t.hood.length hc1):=HT.out.cells.2.2.1;have cT3:zT.cell? ⟨pT,3,none⟩=some (.slice vA1 t.vs.length vc1):=HT.out.cells.2.2.2.1;have cT4:zT.cell? ⟨pT,4,none⟩=some (.slice rA1 t.rs.length rc1):=HT.out.cells.2.2.2.2;have hcall:=few11_any hA1 hc1 vA1 vc1 rA1 rc1 t zT HT.out.tb;rw[HFT.out] at hcall;unfold tabV at hcall;have HCALL:=hid hcall;clear hcall;go_wp2_with (go_at_call 8;refine HCALL.out.mono ?_;intro e x1 hx;obtain⟨rfl,hb⟩:=hx;refine Hid.out ?_);refine hid ?_;replace HB:=hid (HB.out.trans (hb.mono HB.out.size));replace HENV:=hid (HENV.out.ext hb);replace HI:=hid (HI.out.ext hb);replace HT:=hid (HT.out.ext hb);clear hb HCALL;clear cT0 cT1 cT2 cT3 cT4;have hcall:=awake_any x1 HENV.out;have HCALL:=hid hcall;clear hcall;go_wp2_with (go_at_call 9;refine HCALL.out.mono ?_;intro e x2 hx;obtain⟨rfl,hb⟩:=hx;refine Hid.out ?_);refine hid ?_;replace HB:=hid (HB.out.trans (hb.mono HB.out.size));replace HENV:=hid (HENV.out.ext hb);replace HI:=hid (HI.out.ext hb);replace HT:=hid (HT.out.ext hb);clear hb HCALL;go_wp2;go_ret;exact⟨rfl,HB.out⟩
 | true=>
  have HFT:=hid hf;clear hf;cases hg:rightTab t.tab with
  | false=>
   have HR:=hid hg;clear hg;go_enter Tryz.func7,Tryz.ntmps7;obtain⟨zT,hw⟩:∃ W,W=w.alloc (.cells #[.int .i64 t.st,.int .i64 t.sym,.slice hA1 t.hood.length hc1,.slice vA1 t.vs.length vc1,.slice rA1 t.rs.length rc1] 26):=⟨_,rfl⟩
   obtain⟨pT,hp⟩:∃ p,p=w.heap.size:=⟨_,rfl⟩
   have hv:=TvB.new (hc:=hc1) (vc:=vc1) (rc:=rc1) hr;rw[← hw,← hp] at hv;have hb:Below w.heap.size w zT:=by rw[hw];exact below_new _ _
   replace HB:=hid (HB.out.trans (hb.mono HB.out.size));replace HENV:=hid (HENV.out.ext hb);replace HI:=hid (HI.out.ext hb);have HT:=hid hv;clear hv hb hr;go_upto_region 1 with fail
   rw[← hw,← hp];clear hw hp;have cT0:zT.cell? ⟨pT,0,none⟩=some (.int .i64 t.st):=HT.out.cells.1;have cT1:zT.cell? ⟨pT,1,none⟩=some (.int .i64 t.sym):=HT.out.cells.2.1;have cT2:zT.cell? ⟨pT,2,none⟩=some (.slice hA1 t.hood.length hc1):=HT.out.cells.2.2.1;have cT3:zT.cell? ⟨pT,3,none⟩=some (.slice vA1 t.vs.length vc1):=HT.out.cells.2.2.2.1;have cT4:zT.cell? ⟨pT,4,none⟩=some (.slice rA1 t.rs.length rc1):=HT.out.cells.2.2.2.2;have hcall:=few11_any hA1 hc1 vA1 vc1 rA1 rc1 t zT HT.out.tb;rw[HFT.out] at hcall;unfold tabV at hcall;have HCALL:=hid hcall;clear hcall;go_wp2_with (go_at_call 8;refine HCALL.out.mono ?_;intro e x1 hx;obtain⟨rfl,hb⟩:=hx;refine Hid.out ?_);refine hid ?_;replace HB:=hid (HB.out.trans (hb.mono HB.out.size));replace HENV:=hid (HENV.out.ext hb);replace HI:=hid (HI.out.ext hb);replace HT:=hid (HT.out.ext hb);clear hb HCALL;clear cT0 cT1 cT2 cT3 cT4;have cT0:x1.cell? ⟨pT,0,none⟩=some (.int .i64 t.st):=HT.out.cells.1;have cT1:x1.cell? ⟨pT,1,none⟩=some (.int .i64 t.sym):=HT.out.cells.2.1;have cT2:x1.cell? ⟨pT,2,none⟩=some (.slice hA1 t.hood.length hc1):=HT.out.cells.2.2.1;have cT3:x1.cell? ⟨pT,3,none⟩=some (.slice vA1 t.vs.length vc1):=HT.out.cells.2.2.2.1;have cT4:x1.cell? ⟨pT,4,none⟩=some (.slice rA1 t.rs.length rc1):=HT.out.cells.2.2.2.2;have hcall:=rright15_any hA1 hc1 vA1 vc1 rA1 rc1 t x1 HT.out.tb HENV.out.mat;rw[HR.out] at hcall;unfold tabV at hcall;have HCALL:=hid hcall;clear hcall;go_wp2_with (go_at_call 10;refine HCALL.out.mono ?_;intro e x2 hx;obtain⟨rfl,hb⟩:=hx;refine Hid.out ?_);refine hid ?_;replace HB:=hid (HB.out.trans (hb.mono HB.out.size));replace HENV:=hid (HENV.out.ext hb);replace HI:=hid (HI.out.ext hb);replace HT:=hid (HT.out.ext hb);clear hb HCALL;clear cT0 cT1 cT2 cT3 cT4;have hcall:=awake_any x2 HENV.out;have HCALL:=hid hcall;clear hcall;go_wp2_with (go_at_call 9;refine HCALL.out.mono ?_;intro e x3 hx;obtain⟨rfl,hb⟩:=hx;refine Hid.out ?_);refine hid ?_;replace HB:=hid (HB.out.trans (hb.mono HB.out.size));replace HENV:=hid (HENV.out.ext hb);replace HI:=hid (HI.out.ext hb);replace HT:=hid (HT.out.ext hb);clear hb HCALL;go_wp2;go_ret;exact⟨rfl,HB.out⟩
  | true=>
   have HR:=hid hg;clear hg;by_cases hl:inn.length=t.hood.length
   ·
    have d1:((inn.length:Int) != (t.hood.length:Int))=false:=by rw[bne_eq_false_iff_eq];omega
    have HL:=hid hl;clear hl;by_cases hs:t.sym=0
    ·
     have HS0:=hid hs;have d2:(t.sym == 0)=true:=beq_iff_eq.2 hs;clear hs;go_enter Tryz.func7,Tryz.ntmps7;obtain⟨zT,hw⟩:∃ W,W=w.alloc (.cells #[.int .i64 t.st,.int .i64 t.sym,.slice hA1 t.hood.length hc1,.slice vA1 t.vs.length vc1,.slice rA1 t.rs.length rc1] 26):=⟨_,rfl⟩
     obtain⟨pT,hp⟩:∃ p,p=w.heap.size:=⟨_,rfl⟩
     have hv:=TvB.new (hc:=hc1) (vc:=vc1) (rc:=rc1) hr;rw[← hw,← hp] at hv;have hb:Below w.heap.size w zT:=by rw[hw];exact below_new _ _
     replace HB:=hid (HB.out.trans (hb.mono HB.out.size));replace HENV:=hid (HENV.out.ext hb);replace HI:=hid (HI.out.ext hb);have HT:=hid hv;clear hv hb hr;go_upto_region 1 with fail
     rw[← hw,← hp];clear hw hp;have cT0:zT.cell? ⟨pT,0,none⟩=some (.int .i64 t.st):=HT.out.cells.1;have cT1:zT.cell? ⟨pT,1,none⟩=some (.int .i64 t.sym):=HT.out.cells.2.1;have cT2:zT.cell? ⟨pT,2,none⟩=some (.slice hA1 t.hood.length hc1):=HT.out.cells.2.2.1;have cT3:zT.cell? ⟨pT,3,none⟩=some (.slice vA1 t.vs.length vc1):=HT.out.cells.2.2.2.1;have cT4:zT.cell? ⟨pT,4,none⟩=some (.slice rA1 t.rs.length rc1):=HT.out.cells.2.2.2.2;have hcall:=few11_any hA1 hc1 vA1 vc1 rA1 rc1 t zT HT.out.tb;rw[HFT.out] at hcall;unfold tabV at hcall;have HCALL:=hid hcall;clear hcall;go_wp2_with (go_at_call 8;refine HCALL.out.mono ?_;intro e x1 hx;obtain⟨rfl,hb⟩:=hx;refine Hid.out ?_);refine hid ?_;replace HB:=hid (HB.out.trans (hb.mono HB.out.size));replace HENV:=hid (HENV.out.ext hb);replace HI:=hid (HI.out.ext hb);replace HT:=hid (HT.out.ext hb);clear hb HCALL;clear cT0 cT1 cT2 cT3 cT4;have cT0:x1.cell? ⟨pT,0,none⟩=some (.int .i64 t.st):=HT.out.cells.1;have cT1:x1.cell? ⟨pT,1,none⟩=some (.int .i64 t.sym):=HT.out.cells.2.1;have cT2:x1.cell? ⟨pT,2,none⟩=some (.slice hA1 t.hood.length hc1):=HT.out.cells.2.2.1;have cT3:x1.cell? ⟨pT,3,none⟩=some (.slice vA1 t.vs.length vc1):=HT.out.cells.2.2.2.1;have cT4:x1.cell? ⟨pT,4,none⟩=some (.slice rA1 t.rs.length rc1):=HT.out.cells.2.2.2.2;have hcall:=rright15_any hA1 hc1 vA1 vc1 rA1 rc1 t x1 HT.out.tb HENV.out.mat;rw[HR.out] at hcall;unfold tabV at hcall;have HCALL:=hid hcall;clear hcall;go_wp2_with (go_at_call 10;refine HCALL.out.mono ?_;intro e x2 hx;obtain⟨rfl,hb⟩:=hx;refine Hid.out ?_);refine hid ?_;replace HB:=hid (HB.out.trans (hb.mono HB.out.size));replace HENV:=hid (HENV.out.ext hb);replace HI:=hid (HI.out.ext hb);replace HT:=hid (HT.out.ext hb);clear hb HCALL;clear cT0 cT1 cT2 cT3 cT4;obtain⟨cT0,cT1,cT2,cT3,cT4⟩:=HT.out.cells;have hcall:=awake_any x2 HENV.out;have HCALL:=hid hcall;clear hcall;go_wp2_with (go_at_call 9;refine HCALL.out.mono ?_;intro e x3 hx;obtain⟨rfl,hb⟩:=hx;refine Hid.out ?_);refine hid ?_;replace HB:=hid (HB.out.trans (hb.mono HB.out.size));replace HENV:=hid (HENV.out.ext hb);replace HI:=hid (HI.out.ext hb);replace HT:=hid (HT.out.ext hb);clear hb HCALL;go_wp2;go_ret;exact⟨rfl,HB.out⟩
    ·
     have HS0:=hid hs;have d2:(t.sym == 0)=false:=beq_false_of_ne hs;clear hs;by_cases hn:nb=0
     ·
      subst hn;obtain⟨hst,hhd,hpm,-⟩:=rightTab_parts HR.out;have HHD:Hid (hoodB t.hood=true):=hid hhd;have HPM:Hid (permP t.hood t.sym=true):=hid hpm;have HLN:Hid (1≤t.hood.length∧t.hood.length≤25):=hid (hoodB_len hhd);have hi0:0 < inn.length:=by rw[HL.out];exact (hoodB_len hhd).1
      obtain⟨bI,oI,eI,-,-⟩:=HI.out.at_ hi0;subst eI;clear hst hhd hpm hi0;go_enter Tryz.func7,Tryz.ntmps7;obtain⟨zT,hw⟩:∃ W,W=w.alloc (.cells #[.int .i64 t.st,.int .i64 t.sym,.slice hA1 t.hood.length hc1,.slice vA1 t.vs.length vc1,.slice rA1 t.rs.length rc1] 26):=⟨_,rfl⟩
      obtain⟨pT,hp⟩:∃ p,p=w.heap.size:=⟨_,rfl⟩
      have hv:=TvB.new (hc:=hc1) (vc:=vc1) (rc:=rc1) hr;rw[← hw,← hp] at hv;have hb:Below w.heap.size w zT:=by rw[hw];exact below_new _ _
      replace HB:=hid (HB.out.trans (hb.mono HB.out.size));replace HENV:=hid (HENV.out.ext hb);replace HI:=hid (HI.out.ext hb);have HT:=hid hv;clear hv hb hr;go_upto_region 1 with fail
      rw[← hw,← hp];clear hw hp;have cT0:zT.cell? ⟨pT,0,none⟩=some (.int .i64 t.st):=HT.out.cells.1;have cT1:zT.cell? ⟨pT,1,none⟩=some (.int .i64 t.sym):=HT.out.cells.2.1;have cT2:zT.cell? ⟨pT,2,none⟩=some (.slice hA1 t.hood.length hc1):=HT.out.cells.2.2.1;have cT3:zT.cell? ⟨pT,3,none⟩=some (.slice vA1 t.vs.length vc1):=HT.out.cells.2.2.2.1;have cT4:zT.cell? ⟨pT,4,none⟩=some (.slice rA1 t.rs.length rc1):=HT.out.cells.2.2.2.2;have hcall:=few11_any hA1 hc1 vA1 vc1 rA1 rc1 t zT HT.out.tb;rw[HFT.out] at hcall;unfold tabV at hcall;have HCALL:=hid hcall;clear hcall;go_wp2_with (go_at_call 8;refine HCALL.out.mono ?_;intro e x1 hx;obtain⟨rfl,hb⟩:=hx;refine Hid.out ?_);refine hid ?_;replace HB:=hid (HB.out.trans (hb.mono HB.out.size));replace HENV:=hid (HENV.out.ext hb);replace HI:=hid (HI.out.ext hb);replace HT:=hid (HT.out.ext hb);clear hb HCALL;clear cT0 cT1 cT2 cT3 cT4;have cT0:x1.cell? ⟨pT,0,none⟩=some (.int .i64 t.st):=HT.out.cells.1;have cT1:x1.cell? ⟨pT,1,none⟩=some (.int .i64 t.sym):=HT.out.cells.2.1;have cT2:x1.cell? ⟨pT,2,none⟩=some (.slice hA1 t.hood.length hc1):=HT.out.cells.2.2.1;have cT3:x1.cell? ⟨pT,3,none⟩=some (.slice vA1 t.vs.length vc1):=HT.out.cells.2.2.2.1;have cT4:x1.cell? ⟨pT,4,none⟩=some (.slice rA1 t.rs.length rc1):=HT.out.cells.2.2.2.2;have hcall:=rright15_any hA1 hc1 vA1 vc1 rA1 rc1 t x1 HT.out.tb HENV.out.mat;rw[HR.out] at hcall;unfold tabV at hcall;have HCALL:=hid hcall;clear hcall;go_wp2_with (go_at_call 10;refine HCALL.out.mono ?_;intro e x2 hx;obtain⟨rfl,hb⟩:=hx;refine Hid.out ?_);refine hid ?_;replace HB:=hid (HB.out.trans (hb.mono HB.out.size));replace HENV:=hid (HENV.out.ext hb);replace HI:=hid (HI.out.ext hb);replace HT:=hid (HT.out.ext hb);clear hb HCALL;clear cT0 cT1 cT2 cT3 cT4;have cT0:x2.cell? ⟨pT,0,none⟩=some (.int .i64 t.st):=HT.out.cells.1;have cT1:x2.cell? ⟨pT,1,none⟩=some (.int .i64 t.sym):=HT.out.cells.2.1;have cT2:x2.cell? ⟨pT,2,none⟩=some (.slice hA1 t.hood.length hc1):=HT.out.cells.2.2.1;have cT3:x2.cell? ⟨pT,3,none⟩=some (.slice vA1 t.vs.length vc1):=HT.out.cells.2.2.2.1;have cT4:x2.cell? ⟨pT,4,none⟩=some (.slice rA1 t.rs.length rc1):=HT.out.cells.2.2.2.2;have hcall:=next_any hA1 hc1 vA1 vc1 rA1 rc1 t (some ⟨bI,oI,none⟩) ic inn x2 HT.out.tb HENV.out.mat HI.out (.inr permOK);rw[HNT.out] at hcall;unfold tabV at hcall;have HCALL:=hid hcall;clear hcall;go_wp2_with (go_at_call 16;refine HCALL.out.mono ?_;intro e x3 hx;obtain⟨rfl,hb⟩:=hx;refine Hid.out ?_);refine hid ?_;replace HB:=hid (HB.out.trans (hb.mono HB.out.size));replace HENV:=hid (HENV.out.ext hb);replace HI:=hid (HI.out.ext hb);replace HT:=hid (HT.out.ext hb);clear hb HCALL;clear cT0 cT1 cT2 cT3 cT4;have cT2:=HT.out.cells.2.2.1;obtain⟨ct,hct⟩:∃ c,c=ctrP t.hood:=⟨_,rfl⟩
      have HCT:=hid hct;clear hct;have hcall:=rcentre_any hA1 t.hood hc1 x3 HT.out.tb.hood;rw[← HCT.out] at hcall;have HCALL:=hid hcall;clear hcall;go_wp2_with (go_at_call 22;refine HCALL.out.mono ?_;intro e x4 hx;obtain⟨rfl,hb⟩:=hx;refine Hid.out ?_);refine hid ?_;replace HB:=hid (HB.out.trans (hb.mono HB.out.size));replace HENV:=hid (HENV.out.ext hb);replace HI:=hid (HI.out.ext hb);replace HT:=hid (HT.out.ext hb);clear hb HCALL;clear cT2;obtain⟨i0,hi0,hz0,hz1,hz2⟩:=info_parts Tryz.infoInt;have hmw:x4.heap.size≤x4.heap.size:=Nat.le_refl _;have hn25:inn.length≤25:=by rw[HL.out];exact HLN.out.2
      go_wp2_with (at_make;refine wpList_make_full _ rfl _ _ 30 rfl x4.heap.size 3 i0 _ 1 Tryz.underlying30 hi0 hz0 hz1 .i64 .i64 inn.length inn.length inn.length rfl rfl rfl rfl (by rw[hz2];omega) (by unfold maxLen;omega) hmw ?_);intro w6 ho6 hg6;have hb6:Below x4.heap.size x4 w6:=(Below.refl _ x4).grown hg6 (Nat.le_refl _) (by intro k hk;cases hk);have hr6:OwnIA w6 x4.heap.size (.slice (some ⟨x4.heap.size,0,none⟩) inn.length inn.length) (List.replicate inn.length 0):=by
       unfold OwnIA OwnI;rw[List.length_replicate,List.map_replicate];rw[toList_madeCells_one] at ho6;exact ho6
      obtain⟨gS,hgS⟩:∃ gS,gS=x4.heap.size:=⟨_,rfl⟩
      rw[← hgS] at hr6 hb6 ⊢;have HGS:=hid hgS;have HR6:=hid hr6;have HB6:=hid hb6;have HI6:=hid (HI.out.ext (by rw[← hgS];exact hb6:Below x4.heap.size x4 w6));have HRL:Hid ((List.replicate inn.length (0:Int)).length=inn.length):=hid List.length_replicate;clear hi0 hz0 hz1 hz2 hmw ho6 hg6 hb6 hr6 hgS;go_upto_region 8 with fail
      go_wp2_with (refine wpList_copyRow rfl (.tmp 57) (.tmp 58) 30 30 rfl 3 Tryz.underlying30 Tryz.sizeInt gS inn.length ic gS (List.replicate inn.length 0) inn (some ⟨bI,oI,none⟩) rfl rfl HR6.out HRL.out HI6.out rfl HB6.out ?_);intro w7 ho7 hb7;have HO7:Hid (OwnIA w7 gS (.slice (some ⟨gS,0,none⟩) inn.length inn.length) inn):=hid ho7;have HB7:Hid (Below x4.heap.size x4 w7):=hid (by rw[← HGS.out];exact hb7);clear ho7 hb7 HR6 HB6 HI6 HRL;have cT1:=(HT.out.ext HB7.out).cells.2.1;by_cases hs3:t.sym=3
      ·
       have d4:(t.sym == 3)=true:=beq_iff_eq.2 hs3;have HS3:=hid hs3;clear hs3;go_upto_region 10 with fail
       clear cT1 d4 d2 d1;have hk1:=HK.out.1;have hk2:=HK.out.2;have hl1:1≤inn.length:=by rw[HL.out];exact HLN.out.1
       have hl25:inn.length≤25:=by rw[HL.out];exact HLN.out.2
       obtain⟨a,ha⟩:∃ a:Nat,k % (inn.length:Int)=(a:Int):=⟨(k % (inn.length:Int)).toNat,(Int.toNat_of_nonneg (Int.emod_nonneg _ (by omega))).symm⟩
       obtain⟨b,hb⟩:∃ b:Nat,k / 16 % (inn.length:Int)=(b:Int):=⟨(k / 16 % (inn.length:Int)).toNat,(Int.toNat_of_nonneg (Int.emod_nonneg _ (by omega))).symm⟩
       have HAL:Hid (a < inn.length):=hid (by have:=Int.emod_lt_of_pos k (show (0:Int) < inn.length by omega);omega);have HBL:Hid (b < inn.length):=hid (by have:=Int.emod_lt_of_pos (k / 16) (show (0:Int) < inn.length by omega);omega);have k0:(inn.length:Int)≠0:=by omega
       have k1:IntKind.i64.wrap k=k:=i64_id _ (by omega) (by omega);have k2:IntKind.i64.wrap (k / 16)=k / 16:=i64_id _ (by omega) (by omega);have k3:IntKind.u8.wrap (k.tdiv 16)=k / 16:=u8_quo16 hk1 hk2;have k4:k.tmod (inn.length:Int)=(a:Int):=by rw[Int.tmod_eq_emod_of_nonneg hk1];exact ha
       have k5:(k / 16).tmod (inn.length:Int)=(b:Int):=by rw[Int.tmod_eq_emod_of_nonneg (by omega)];exact hb
       have k6:IntKind.i64.wrap (a:Int)=(a:Int):=i64_id _ (by omega) (by have:=HAL.out;omega);have k7:IntKind.i64.wrap (b:Int)=(b:Int):=i64_id _ (by omega) (by have:=HBL.out;omega);clear ha hb;go_quiet (fail)
       clear k0 k1 k2 k3 k4 k5 k6 k7 hk1 hk2 hl1 hl25;obtain⟨wd,hwd⟩:∃ wd,wd=w7.drewN nq:=⟨_,rfl⟩
       have HOD:Hid (OwnIA wd gS (.slice (some ⟨gS,0,none⟩) inn.length inn.length) inn):=hid (by rw[hwd];exact HO7.out);have HBD:Hid (Below x4.heap.size x4 wd):=hid (by rw[hwd];exact below_drewN HB7.out _);rw[← hwd];clear hwd HO7 HB7;by_cases hac:(a:Int)=ct
       ·
        have e1:((a:Int) == ct)=true:=beq_iff_eq.2 hac;clear hac;have hbt:=HBD.out;replace HB:=hid (HB.out.trans (hbt.mono HB.out.size));replace HENV:=hid (HENV.out.ext hbt);replace HI:=hid (HI.out.ext hbt);replace HT:=hid (HT.out.ext hbt);clear hbt;have hcall:=awake_any wd HENV.out;have HCALL:=hid hcall;clear hcall;go_wp2_with (go_at_call 9;refine HCALL.out.mono ?_;intro e x5 hx;obtain⟨rfl,hb⟩:=hx;refine Hid.out ?_);refine hid ?_;replace HB:=hid (HB.out.trans (hb.mono HB.out.size));replace HENV:=hid (HENV.out.ext hb);replace HI:=hid (HI.out.ext hb);replace HT:=hid (HT.out.ext hb);clear hb HCALL;go_wp2;go_ret;exact⟨rfl,HB.out⟩
       ·
        have e1:((a:Int) == ct)=false:=beq_false_of_ne hac;have HAC:=hid hac;clear hac;by_cases hbc:(b:Int)=ct
        ·
         have e2:((b:Int) == ct)=true:=beq_iff_eq.2 hbc;clear hbc;have hbt:=HBD.out;replace HB:=hid (HB.out.trans (hbt.mono HB.out.size));replace HENV:=hid (HENV.out.ext hbt);replace HI:=hid (HI.out.ext hbt);replace HT:=hid (HT.out.ext hbt);clear hbt;have hcall:=awake_any wd HENV.out;have HCALL:=hid hcall;clear hcall;go_wp2_with (go_at_call 9;refine HCALL.out.mono ?_;intro e x5 hx;obtain⟨rfl,hb⟩:=hx;refine Hid.out ?_);refine hid ?_;replace HB:=hid (HB.out.trans (hb.mono HB.out.size));replace HENV:=hid (HENV.out.ext hb);replace HI:=hid (HI.out.ext hb);replace HT:=hid (HT.out.ext hb);clear hb HCALL;go_wp2;go_ret;exact⟨rfl,HB.out⟩
        ·
         have e2:((b:Int) == ct)=false:=beq_false_of_ne hbc;have HBC:=hid hbc;clear hbc;go_upto_region 13 with fail
         clear e1 e2;obtain⟨bz,oz,ez,-,gz⟩:=(HI.out.ext HBD.out).at_ HBL.out;injection ez with ez
         injection ez with e1 e2
         subst e1 e2;have hiv:inn[b]'HBL.out=inn.getD b 0:=by rw[List.getD_eq_getElem?_getD,List.getElem?_eq_getElem HBL.out];rfl
         rw[hiv] at gz;obtain⟨vb,hvb⟩:∃ v,v=inn.getD b 0:=⟨_,rfl⟩
         rw[← hvb] at gz;have HVB:=hid hvb;have hla:a < inn.length:=HAL.out;have hlb:b < inn.length:=HBL.out;have hck:=HOD.out.cellk (k:=a) (by exact HAL.out);have hcc:=hck.1;have hcf:=hck.2;have hset:=HOD.out.set (by rfl) a vb;have hbs:Below x4.heap.size x4 (wd.setCell ⟨gS,a,none⟩ (.int .i64 vb)):=HBD.out.setCell (p:=⟨gS,a,none⟩) (by rw[HGS.out];exact Nat.le_refl _) _;have HSET:=hid hset;have HBS:=hid hbs;clear hiv hvb hck hset hbs;go_upto_region 14 with fail
         clear gz hcc hcf hla hlb;obtain⟨we,hwe⟩:∃ we,we=wd.setCell ⟨gS,a,none⟩ (.int .i64 vb):=⟨_,rfl⟩
         rw[← hwe] at HSET HBS ⊢;have HOE:=HSET;have HBE:=HBS;clear hwe HSET HBS HOD HBD;obtain⟨bz,oz,ez,-,gz⟩:=(HI.out.ext HBE.out).at_ HAL.out;injection ez with ez
         injection ez with e1 e2
         subst e1 e2;have hiv:inn[a]'HAL.out=inn.getD a 0:=by rw[List.getD_eq_getElem?_getD,List.getElem?_eq_getElem HAL.out];rfl
         rw[hiv] at gz;obtain⟨va,hva⟩:∃ v,v=inn.getD a 0:=⟨_,rfl⟩
         rw[← hva] at gz;have HVA:=hid hva;have hlb:b < inn.length:=HBL.out;have hla:a < inn.length:=HAL.out;have hck:=HOE.out.cellk (k:=b) (by rw[List.length_set];exact HBL.out);have hcc:=hck.1;have hcf:=hck.2;have hset:=HOE.out.set (by rw[List.length_set]) b va;have hbs:Below x4.heap.size x4 (we.setCell ⟨gS,b,none⟩ (.int .i64 va)):=HBE.out.setCell (p:=⟨gS,b,none⟩) (by rw[HGS.out];exact Nat.le_refl _) _;have HSET:=hid hset;have HBS:=hid hbs;clear hiv hva hck hset hbs;go_upto_region 31 with fail
         clear gz hcc hcf hla hlb;obtain⟨wf,hwf⟩:∃ wf,wf=we.setCell ⟨gS,b,none⟩ (.int .i64 va):=⟨_,rfl⟩
         rw[← hwf] at HSET HBS ⊢;obtain⟨tn,htn⟩:∃ l,l=swapL inn a b:=⟨_,rfl⟩
         have HTL:Hid (tn.length=inn.length):=hid (by rw[htn,swapL_len]);have hsw:(inn.set a vb).set b va=tn:=by rw[htn,HVA.out,HVB.out];rfl
         have HTR:Hid (Ints wf (some ⟨gS,0,none⟩) tn):=hid (by have:=HSET.out.reads;rw[hsw] at this;exact this);have HTN:Hid (nextT t.tab tn=(na,0)):=hid (by
          rw[htn,← HNT.out];exact next_swap (t:=t.tab) HS3.out (by rw[HNT.out]) HAL.out HBL.out (by have:=HAC.out;rw[HCT.out] at this;exact this) (by have:=HBC.out;rw[HCT.out] at this;exact this))
         have HNA:Hid (na ∈ ([0,1,2,3,4,5,6,7]:List Int)):=hid (by have h:=next_rng (t:=t.tab) (inn:=inn) (by rw[HNT.out]);rw[HNT.out] at h;exact h);have hbt:=HBS.out;clear hwf hsw htn HSET HBS HOE HBE;replace HB:=hid (HB.out.trans (hbt.mono HB.out.size));replace HENV:=hid (HENV.out.ext hbt);replace HI:=hid (HI.out.ext hbt);replace HT:=hid (HT.out.ext hbt);clear hbt;have cT0:wf.cell? ⟨pT,0,none⟩=some (.int .i64 t.st):=HT.out.cells.1;have cT1:wf.cell? ⟨pT,1,none⟩=some (.int .i64 t.sym):=HT.out.cells.2.1;have cT2:wf.cell? ⟨pT,2,none⟩=some (.slice hA1 t.hood.length hc1):=HT.out.cells.2.2.1;have cT3:wf.cell? ⟨pT,3,none⟩=some (.slice vA1 t.vs.length vc1):=HT.out.cells.2.2.2.1;have cT4:wf.cell? ⟨pT,4,none⟩=some (.slice rA1 t.rs.length rc1):=HT.out.cells.2.2.2.2;have hcall:=next_any hA1 hc1 vA1 vc1 rA1 rc1 t (some ⟨gS,0,none⟩) inn.length tn wf HT.out.tb HENV.out.mat HTR.out (.inr permOK);rw[HTN.out,HTL.out] at hcall;unfold tabV at hcall;have HCALL:=hid hcall;clear hcall;go_wp2_with (go_at_call 16;refine HCALL.out.mono ?_;intro e x5 hx;obtain⟨rfl,hb⟩:=hx;refine Hid.out ?_);refine hid ?_;replace HB:=hid (HB.out.trans (hb.mono HB.out.size));replace HENV:=hid (HENV.out.ext hb);replace HI:=hid (HI.out.ext hb);replace HT:=hid (HT.out.ext hb);clear hb HCALL;clear cT0 cT1 cT2 cT3 cT4;go_upto_region 32 with fail
         have hcall:=has8 x5 na HNA.out;have HCALL:=hid hcall;clear hcall;go_wp2_with (go_at_call 24;refine HCALL.out.mono ?_;intro e x6 hx;obtain⟨rfl,hb⟩:=hx;refine Hid.out ?_);refine hid ?_;replace HB:=hid (HB.out.trans (hb.mono HB.out.size));replace HENV:=hid (HENV.out.ext hb);replace HI:=hid (HI.out.ext hb);replace HT:=hid (HT.out.ext hb);clear hb HCALL;have hcall:=awake_any x6 HENV.out;have HCALL:=hid hcall;clear hcall;go_wp2_with (go_at_call 9;refine HCALL.out.mono ?_;intro e x7 hx;obtain⟨rfl,hb⟩:=hx;refine Hid.out ?_);refine hid ?_;replace HB:=hid (HB.out.trans (hb.mono HB.out.size));replace HENV:=hid (HENV.out.ext hb);replace HI:=hid (HI.out.ext hb);replace HT:=hid (HT.out.ext hb);clear hb HCALL;go_wp2;go_ret;exact⟨rfl,HB.out⟩
      ·
       have d4:(t.sym == 3)=false:=beq_false_of_ne hs3;have hs0:=HS0.out;have hs12:t.sym=1∨t.sym=2:=by rcases permP_symS HPM.out with e | e | e | e <;> first | exact absurd e hs0 | exact absurd e hs3 | exact .inl e | exact .inr e
       have HS3:=hid hs3;clear hs3 hs0;go_upto_region 15 with fail
       clear d4 d2 d1;have hs1:1≤t.sym:=by omega
       have hs2:t.sym≤2:=by omega
       obtain⟨nn,hnn⟩:∃ nn:Nat,k % (4*t.sym)=(nn:Int):=⟨(k % (4*t.sym)).toNat,(Int.toNat_of_nonneg (Int.emod_nonneg _ (by omega))).symm⟩
       have HNS:Hid (nn < nSym t.sym):=hid (by
        have:=Int.emod_lt_of_pos k (show 0 < 4*t.sym by omega);rw[hnn] at this;unfold nSym;rcases hs12 with e | e
        ·rw[if_pos e];omega
        ·rw[if_neg (by omega),if_pos e];omega)
       have HS12:=hid hs12;have HIN:Hid (∀ q ∈ t.hood,symP (nn:Int) q ∈ t.hood):=hid (syms_in HHD.out HPM.out HS3.out HNS.out);have hk1:=HK.out.1;have hk2:=HK.out.2;clear hs12;go_upto_region 16 with fail
       rw[hnn];clear hnn hs1 hs2 hk1 hk2 cT1;go_wp2;go_loopw [105] (fun iv wr=>∃ i:Nat,i≤inn.length∧iv=.int .i64 i∧Hid (OwnIA wr gS (.slice (some ⟨gS,0,none⟩) inn.length inn.length) (turnL t.hood nn inn i))∧Hid (Below x4.heap.size x4 wr)) (fun iv _=>inn.length - (intOf iv).toNat)
       case atStart=>exact⟨0,Nat.zero_le _,rfl,HO7,HB7⟩
       case round=>
        clear HO7 HB7;obtain⟨i,hi,rfl,HO,HBR⟩:=hrel;have hwi:wrap64 ((i:Int)+1)=(i:Int)+1:=wrap_id (by have:=HLN.out.2;have:=HL.out;omega);by_cases hil:i < inn.length
        ·have hia:i < t.hood.length:=by rw[← HL.out];exact hil
         have tA:=HT.out.ext HBR.out;obtain⟨bi,oi,ei,-,q0,q1⟩:=tA.tb.hood.at_ hia;have hrg:=hoodB_rng HHD.out _ (List.getElem_mem hia);have hgd:t.hood.getD i (0,0)=t.hood[i]:=by rw[List.getD_eq_getElem?_getD,List.getElem?_eq_getElem hia];rfl
         have hmem0:=HIN.out _ (List.getElem_mem hia);obtain⟨p,hp⟩:∃ p,p=t.hood[i]:=⟨_,rfl⟩
         rw[← hp] at q0 q1 hrg hgd hmem0;obtain⟨x,y⟩:=p;dsimp only at q0 q1 hrg;have hap:=apply_any (nn:Int) x y wr (HENV.out.ext HBR.out).mat (by omega) (by omega);obtain⟨z,hz⟩:∃ z,z=symP (nn:Int) (x,y):=⟨_,rfl⟩
         rw[← hz] at hap hmem0;obtain⟨zx,zy⟩:=z;dsimp only at hap;have cT2:=tA.cells.2.2.1;rw[ei] at cT2;have HAP:=hid hap;have HIL:=hid hil;have HQ:Hid (symP (nn:Int) (t.hood.getD i (0,0))=(zx,zy)):=hid (by rw[hgd,hz]);have HFD:Hid (hasQ t.hood (zx,zy) t.hood.length=true):=hid (hasQ_mem hmem0);clear hap hz hp hrg tA hi hgd hmem0 ei;go_wp2_with (go_at_call 23;refine HAP.out.mono ?_;intro e w5 hx9;obtain⟨rfl,hb5⟩:=hx9;refine Hid.out ?_);refine hid ?_;clear q0 q1 cT2 HAP hia;obtain⟨v6,hw6⟩:∃ v6,v6=w5.alloc (.cells #[.int .i64 zx,.int .i64 zy] 43):=⟨_,rfl⟩
         obtain⟨p15,hp15⟩:∃ p15,p15=w5.heap.size:=⟨_,rfl⟩
         have hb6:Below w5.heap.size w5 v6:=by rw[hw6];exact below_new _ _
         have hb56:=hb5.trans (hb6.mono hb5.size);have HB6:Hid (Below x4.heap.size x4 v6):=hid (HBR.out.trans (hb56.mono HBR.out.size));have HO6:=hid (HO.out.ext hb56);have HP15:Hid (Blk v6 p15 43 #[.int .i64 zx,.int .i64 zy]):=hid (by rw[hw6,hp15];exact Blk.new _ _ _);have HPN:Hid (p15≠gS):=hid (by
          have h1:=(own_lt' HO.out (g:=gS) rfl).1;have h2:=hb5.size;intro e;rw[← hp15,e] at h2;exact Nat.lt_irrefl _ (Nat.lt_of_lt_of_le h1 h2))
         have cT2:=(HT.out.ext HB6.out).cells.2.2.1;clear hb5 hb6 hb56;go_upto_region 20 with fail
         rw[← hw6,← hp15];clear hw6 hp15;go_wp2;clear cT2;go_loopw [16,118] (fun fv jv wr=>∃ (j:Nat) (f:Bool),j≤t.hood.length∧fv=.bool f∧jv=.int .i64 j∧Hid (f=hasQ t.hood (zx,zy) j)∧Hid (OwnIA wr gS (.slice (some ⟨gS,0,none⟩) inn.length inn.length) (putL t.hood (zx,zy) (inn.getD i 0) j (turnL t.hood nn inn i)))∧Hid (Below x4.heap.size x4 wr)∧Hid (Blk wr p15 43 #[.int .i64 zx,.int .i64 zy])) (fun _ jv _=>t.hood.length - (intOf jv).toNat)
         case atStart=>exact⟨0,false,Nat.zero_le _,rfl,rfl,hid rfl,HO6,HB6,HP15⟩
         case round=>
          clear HO6 HB6 HP15;obtain⟨j,f,hj,rfl,rfl,HF,HOJ,HBJ,HPJ⟩:=hrel;have hwj:wrap64 ((j:Int)+1)=(j:Int)+1:=wrap_id (by have:=HLN.out.2;omega);by_cases hjl:j < t.hood.length
          ·have tU:=HT.out.ext HBJ.out;have cT2:=tU.cells.2.2.1;obtain⟨bj,oj,ej,-,r0,r1⟩:=tU.tb.hood.at_ hjl;rw[ej] at cT2;have hgj:t.hood.getD j (0,0)=t.hood[j]:=by rw[List.getD_eq_getElem?_getD,List.getElem?_eq_getElem hjl];rfl
           obtain⟨q,hq⟩:∃ q,q=t.hood[j]:=⟨_,rfl⟩
           rw[← hq] at r0 r1 hgj;obtain⟨x',y'⟩:=q;dsimp only at r0 r1;have x0:=HPJ.out.cell_ 0 (.int .i64 zx) rfl;have x1:=HPJ.out.cell_ 1 (.int .i64 zy) rfl;have HJL:=hid hjl;have HGJ:=hid hgj;clear hq hgj tU hj ej;by_cases hxe:x'=zx
           ·have e1:(x' == zx)=true:=by simp[hxe]
            by_cases hye:y'=zy
            ·have e2:(y' == zy)=true:=by simp[hye]
             have hgq:t.hood.getD j (0,0)=(zx,zy):=by rw[HGJ.out,hxe,hye]
             have HF2:Hid (true=hasQ t.hood (zx,zy) (j+1)):=hid (hasQ_hit hgq).symm;have HSG:=hid (putL_hit (v:=inn.getD i 0) (l:=turnL t.hood nn inn i) hgq);clear hxe hye hgq;go_upto_region 24 with fail
             go_quiet (fail)
             obtain⟨wd,hwd⟩:∃ wd,wd=wr.drewN nq:=⟨_,rfl⟩
             have how:OwnIA wd gS (.slice (some ⟨gS,0,none⟩) inn.length inn.length) (putL t.hood (zx,zy) (inn.getD i 0) j (turnL t.hood nn inn i)):=by rw[hwd];exact HOJ.out
             have hbd:Below x4.heap.size x4 wd:=by rw[hwd];exact below_drewN HBJ.out _
             have hpd:Blk wd p15 43 #[.int .i64 zx,.int .i64 zy]:=by rw[hwd];exact HPJ.out
             rw[← hwd];clear hwd r0 r1 x0 x1 cT2 e1 e2;obtain⟨bz,oz,ez,-,gz⟩:=(HI.out.ext hbd).at_ HIL.out;injection ez with ez
             injection ez with e1 e2
             subst e1 e2;have hiv:inn[i]'HIL.out=inn.getD i 0:=by rw[List.getD_eq_getElem?_getD,List.getElem?_eq_getElem HIL.out];rfl
             rw[hiv] at gz;have hjn:j < inn.length:=by rw[HL.out];exact HJL.out
             have hjs:j < (putL t.hood (zx,zy) (inn.getD i 0) j (turnL t.hood nn inn i)).length:=by rw[putL_len,turnL_len];exact hjn
             have hck:=how.cellk (k:=j) hjs;have hcc:=hck.1;have hcf:=hck.2;have hset:=how.set (by rw[putL_len,turnL_len]) j (inn.getD i 0);rw[← HSG.out] at hset;have HSET:=hid hset;have hkp:=(Kept.refl (fun g=>g=gS) wd).setCell (p:=⟨gS,j,none⟩) (Or.inl rfl) (.int .i64 (inn.getD i 0));have HPS:=hid (hkp.blk hpd (fun e=>HPN.out e));have HBS:Hid (Below x4.heap.size x4 (wd.setCell ⟨gS,j,none⟩ (.int .i64 (inn.getD i 0)))):=hid (hbd.setCell (p:=⟨gS,j,none⟩) (by rw[HGS.out];exact Nat.le_refl _) _);obtain⟨zv,hzv⟩:∃ zv,zv=inn.getD i 0:=⟨_,rfl⟩
             rw[← hzv] at gz HSET HPS HBS;have HZV:=hid hzv;clear how hbd hpd hck hset hkp hjs hiv hzv;go_wp2;go_roundw
             case rel=>exact⟨j+1,true,HJL.out,rfl,(by first | rfl | (rw[hwj];rfl)),HF2,hid (by rw[← HZV.out];exact HSET.out),HBS,HPS⟩
             case measure=>(try rw[hwj]);exact meas_stepS HJL.out
            ·have e2:(y' == zy)=false:=by simpa using hye
             have hgq:t.hood.getD j (0,0)≠(zx,zy):=by rw[HGJ.out];exact fun e=>hye (congrArg Prod.snd e)
             have HF2:Hid (f=hasQ t.hood (zx,zy) (j+1)):=hid (by rw[hasQ_miss hgq];exact HF.out);have HSG:=hid (putL_miss (v:=inn.getD i 0) (l:=turnL t.hood nn inn i) hgq);clear hye hgq;go_upto_region 24 with fail
             go_quiet (fail)
             clear r0 r1 x0 x1 cT2 hjl;go_wp2;go_roundw
             case rel=>exact⟨j+1,f,HJL.out,rfl,(by first | rfl | (rw[hwj];rfl)),HF2,hid (by rw[HSG.out];exact HOJ.out.drewN _),hid (below_drewN HBJ.out _),HPJ⟩
             case measure=>(try rw[hwj]);exact meas_stepS HJL.out
           ·have e1:(x' == zx)=false:=by simpa using hxe
            have hgq:t.hood.getD j (0,0)≠(zx,zy):=by rw[HGJ.out];exact fun e=>hxe (congrArg Prod.fst e)
            have HF2:Hid (f=hasQ t.hood (zx,zy) (j+1)):=hid (by rw[hasQ_miss hgq];exact HF.out);have HSG:=hid (putL_miss (v:=inn.getD i 0) (l:=turnL t.hood nn inn i) hgq);clear hxe hgq;go_upto_region 24 with fail
            go_quiet (fail)
            clear r0 r1 x0 x1 cT2 hjl;go_wp2;go_roundw
            case rel=>exact⟨j+1,f,HJL.out,rfl,(by first | rfl | (rw[hwj];rfl)),HF2,hid (by rw[HSG.out];exact HOJ.out.drewN _),hid (below_drewN HBJ.out _),HPJ⟩
            case measure=>(try rw[hwj]);exact meas_stepS HJL.out
          ·have hje:j=t.hood.length:=Nat.le_antisymm hj (Nat.le_of_not_lt hjl);have hft:f=true:=by rw[HF.out,hje];exact HFD.out
           have HOE:Hid (OwnIA wr gS (.slice (some ⟨gS,0,none⟩) inn.length inn.length) (turnL t.hood nn inn (i+1))):=hid (by
            rw[turnL_next HQ.out,← hje];exact HOJ.out)
           subst hft;clear hje hj;go_wp2;go_roundw
           case rel=>exact⟨i+1,HIL.out,(by first | rfl | (rw[hwi];rfl)),HOE,HBJ⟩
           case measure=>(try rw[hwi]);exact meas_stepS HIL.out
        ·have hie:i=t.hood.length:=(Nat.le_antisymm hi (Nat.le_of_not_lt hil)).trans HL.out;obtain⟨tn,htn⟩:∃ l,l=turnL t.hood nn inn i:=⟨_,rfl⟩
         have HTL:Hid (tn.length=inn.length):=hid (by rw[htn,turnL_len]);have HTR:Hid (Ints wr (some ⟨gS,0,none⟩) tn):=hid (by rw[htn];exact HO.out.reads);have HTN:Hid (nextT t.tab tn=(na,0)):=hid (by
          rw[htn,hie,← HNT.out];exact next_turn (t:=t.tab) HS12.out (by rw[HNT.out]) HNS.out HIN.out (hood_nodup HHD.out) (turnL_turn HL.out (hood_nodup HHD.out) (fun p q e=>symP_inj (sym8 HNS.out) e)))
         have HNA:Hid (na ∈ ([0,1,2,3,4,5,6,7]:List Int)):=hid (by have h:=next_rng (t:=t.tab) (inn:=inn) (by rw[HNT.out]);rw[HNT.out] at h;exact h);have hbt:=HBR.out;clear htn hie hi HBR HO;go_upto_region 31 with fail
         replace HB:=hid (HB.out.trans (hbt.mono HB.out.size));replace HENV:=hid (HENV.out.ext hbt);replace HI:=hid (HI.out.ext hbt);replace HT:=hid (HT.out.ext hbt);clear hbt;have cT0:wr.cell? ⟨pT,0,none⟩=some (.int .i64 t.st):=HT.out.cells.1;have cT1:wr.cell? ⟨pT,1,none⟩=some (.int .i64 t.sym):=HT.out.cells.2.1;have cT2:wr.cell? ⟨pT,2,none⟩=some (.slice hA1 t.hood.length hc1):=HT.out.cells.2.2.1;have cT3:wr.cell? ⟨pT,3,none⟩=some (.slice vA1 t.vs.length vc1):=HT.out.cells.2.2.2.1;have cT4:wr.cell? ⟨pT,4,none⟩=some (.slice rA1 t.rs.length rc1):=HT.out.cells.2.2.2.2;have hcall:=next_any hA1 hc1 vA1 vc1 rA1 rc1 t (some ⟨gS,0,none⟩) inn.length tn wr HT.out.tb HENV.out.mat HTR.out (.inr permOK);rw[HTN.out,HTL.out] at hcall;unfold tabV at hcall;have HCALL:=hid hcall;clear hcall;go_wp2_with (go_at_call 16;refine HCALL.out.mono ?_;intro e x5 hx;obtain⟨rfl,hb⟩:=hx;refine Hid.out ?_);refine hid ?_;replace HB:=hid (HB.out.trans (hb.mono HB.out.size));replace HENV:=hid (HENV.out.ext hb);replace HI:=hid (HI.out.ext hb);replace HT:=hid (HT.out.ext hb);clear hb HCALL;clear cT0 cT1 cT2 cT3 cT4;go_upto_region 32 with fail
         have hcall:=has8 x5 na HNA.out;have HCALL:=hid hcall;clear hcall;go_wp2_with (go_at_call 24;refine HCALL.out.mono ?_;intro e x6 hx;obtain⟨rfl,hb⟩:=hx;refine Hid.out ?_);refine hid ?_;replace HB:=hid (HB.out.trans (hb.mono HB.out.size));replace HENV:=hid (HENV.out.ext hb);replace HI:=hid (HI.out.ext hb);replace HT:=hid (HT.out.ext hb);clear hb HCALL;have hcall:=awake_any x6 HENV.out;have HCALL:=hid hcall;clear hcall;go_wp2_with (go_at_call 9;refine HCALL.out.mono ?_;intro e x7 hx;obtain⟨rfl,hb⟩:=hx;refine Hid.out ?_);refine hid ?_;replace HB:=hid (HB.out.trans (hb.mono HB.out.size));replace HENV:=hid (HENV.out.ext hb);replace HI:=hid (HI.out.ext hb);replace HT:=hid (HT.out.ext hb);clear hb HCALL;go_wp2;go_ret;exact⟨rfl,HB.out⟩
     ·
      have HN:=hid hn;have d3:(nb != 0)=true:=bne_iff_ne.2 hn;clear hn;go_enter Tryz.func7,Tryz.ntmps7;obtain⟨zT,hw⟩:∃ W,W=w.alloc (.cells #[.int .i64 t.st,.int .i64 t.sym,.slice hA1 t.hood.length hc1,.slice vA1 t.vs.length vc1,.slice rA1 t.rs.length rc1] 26):=⟨_,rfl⟩
      obtain⟨pT,hp⟩:∃ p,p=w.heap.size:=⟨_,rfl⟩
      have hv:=TvB.new (hc:=hc1) (vc:=vc1) (rc:=rc1) hr;rw[← hw,← hp] at hv;have hb:Below w.heap.size w zT:=by rw[hw];exact below_new _ _
      replace HB:=hid (HB.out.trans (hb.mono HB.out.size));replace HENV:=hid (HENV.out.ext hb);replace HI:=hid (HI.out.ext hb);have HT:=hid hv;clear hv hb hr;go_upto_region 1 with fail
      rw[← hw,← hp];clear hw hp;have cT0:zT.cell? ⟨pT,0,none⟩=some (.int .i64 t.st):=HT.out.cells.1;have cT1:zT.cell? ⟨pT,1,none⟩=some (.int .i64 t.sym):=HT.out.cells.2.1;have cT2:zT.cell? ⟨pT,2,none⟩=some (.slice hA1 t.hood.length hc1):=HT.out.cells.2.2.1;have cT3:zT.cell? ⟨pT,3,none⟩=some (.slice vA1 t.vs.length vc1):=HT.out.cells.2.2.2.1;have cT4:zT.cell? ⟨pT,4,none⟩=some (.slice rA1 t.rs.length rc1):=HT.out.cells.2.2.2.2;have hcall:=few11_any hA1 hc1 vA1 vc1 rA1 rc1 t zT HT.out.tb;rw[HFT.out] at hcall;unfold tabV at hcall;have HCALL:=hid hcall;clear hcall;go_wp2_with (go_at_call 8;refine HCALL.out.mono ?_;intro e x1 hx;obtain⟨rfl,hb⟩:=hx;refine Hid.out ?_);refine hid ?_;replace HB:=hid (HB.out.trans (hb.mono HB.out.size));replace HENV:=hid (HENV.out.ext hb);replace HI:=hid (HI.out.ext hb);replace HT:=hid (HT.out.ext hb);clear hb HCALL;clear cT0 cT1 cT2 cT3 cT4;have cT0:x1.cell? ⟨pT,0,none⟩=some (.int .i64 t.st):=HT.out.cells.1;have cT1:x1.cell? ⟨pT,1,none⟩=some (.int .i64 t.sym):=HT.out.cells.2.1;have cT2:x1.cell? ⟨pT,2,none⟩=some (.slice hA1 t.hood.length hc1):=HT.out.cells.2.2.1;have cT3:x1.cell? ⟨pT,3,none⟩=some (.slice vA1 t.vs.length vc1):=HT.out.cells.2.2.2.1;have cT4:x1.cell? ⟨pT,4,none⟩=some (.slice rA1 t.rs.length rc1):=HT.out.cells.2.2.2.2;have hcall:=rright15_any hA1 hc1 vA1 vc1 rA1 rc1 t x1 HT.out.tb HENV.out.mat;rw[HR.out] at hcall;unfold tabV at hcall;have HCALL:=hid hcall;clear hcall;go_wp2_with (go_at_call 10;refine HCALL.out.mono ?_;intro e x2 hx;obtain⟨rfl,hb⟩:=hx;refine Hid.out ?_);refine hid ?_;replace HB:=hid (HB.out.trans (hb.mono HB.out.size));replace HENV:=hid (HENV.out.ext hb);replace HI:=hid (HI.out.ext hb);replace HT:=hid (HT.out.ext hb);clear hb HCALL;clear cT0 cT1 cT2 cT3 cT4;have cT0:x2.cell? ⟨pT,0,none⟩=some (.int .i64 t.st):=HT.out.cells.1;have cT1:x2.cell? ⟨pT,1,none⟩=some (.int .i64 t.sym):=HT.out.cells.2.1;have cT2:x2.cell? ⟨pT,2,none⟩=some (.slice hA1 t.hood.length hc1):=HT.out.cells.2.2.1;have cT3:x2.cell? ⟨pT,3,none⟩=some (.slice vA1 t.vs.length vc1):=HT.out.cells.2.2.2.1;have cT4:x2.cell? ⟨pT,4,none⟩=some (.slice rA1 t.rs.length rc1):=HT.out.cells.2.2.2.2;have hcall:=next_any hA1 hc1 vA1 vc1 rA1 rc1 t iA ic inn x2 HT.out.tb HENV.out.mat HI.out (.inr permOK);rw[HNT.out] at hcall;unfold tabV at hcall;have HCALL:=hid hcall;clear hcall;go_wp2_with (go_at_call 16;refine HCALL.out.mono ?_;intro e x3 hx;obtain⟨rfl,hb⟩:=hx;refine Hid.out ?_);refine hid ?_;replace HB:=hid (HB.out.trans (hb.mono HB.out.size));replace HENV:=hid (HENV.out.ext hb);replace HI:=hid (HI.out.ext hb);replace HT:=hid (HT.out.ext hb);clear hb HCALL;clear cT0 cT1 cT2 cT3 cT4;have hcall:=awake_any x3 HENV.out;have HCALL:=hid hcall;clear hcall;go_wp2_with (go_at_call 9;refine HCALL.out.mono ?_;intro e x4 hx;obtain⟨rfl,hb⟩:=hx;refine Hid.out ?_);refine hid ?_;replace HB:=hid (HB.out.trans (hb.mono HB.out.size));replace HENV:=hid (HENV.out.ext hb);replace HI:=hid (HI.out.ext hb);replace HT:=hid (HT.out.ext hb);clear hb HCALL;go_wp2;go_ret;exact⟨rfl,HB.out⟩
   ·
    have d1:((inn.length:Int) != (t.hood.length:Int))=true:=by rw[bne_iff_ne];omega
    clear hl;go_enter Tryz.func7,Tryz.ntmps7;obtain⟨zT,hw⟩:∃ W,W=w.alloc (.cells #[.int .i64 t.st,.int .i64 t.sym,.slice hA1 t.hood.length hc1,.slice vA1 t.vs.length vc1,.slice rA1 t.rs.length rc1] 26):=⟨_,rfl⟩
    obtain⟨pT,hp⟩:∃ p,p=w.heap.size:=⟨_,rfl⟩
    have hv:=TvB.new (hc:=hc1) (vc:=vc1) (rc:=rc1) hr;rw[← hw,← hp] at hv;have hb:Below w.heap.size w zT:=by rw[hw];exact below_new _ _
    replace HB:=hid (HB.out.trans (hb.mono HB.out.size));replace HENV:=hid (HENV.out.ext hb);replace HI:=hid (HI.out.ext hb);have HT:=hid hv;clear hv hb hr;go_upto_region 1 with fail
    rw[← hw,← hp];clear hw hp;have cT0:zT.cell? ⟨pT,0,none⟩=some (.int .i64 t.st):=HT.out.cells.1;have cT1:zT.cell? ⟨pT,1,none⟩=some (.int .i64 t.sym):=HT.out.cells.2.1;have cT2:zT.cell? ⟨pT,2,none⟩=some (.slice hA1 t.hood.length hc1):=HT.out.cells.2.2.1;have cT3:zT.cell? ⟨pT,3,none⟩=some (.slice vA1 t.vs.length vc1):=HT.out.cells.2.2.2.1;have cT4:zT.cell? ⟨pT,4,none⟩=some (.slice rA1 t.rs.length rc1):=HT.out.cells.2.2.2.2;have hcall:=few11_any hA1 hc1 vA1 vc1 rA1 rc1 t zT HT.out.tb;rw[HFT.out] at hcall;unfold tabV at hcall;have HCALL:=hid hcall;clear hcall;go_wp2_with (go_at_call 8;refine HCALL.out.mono ?_;intro e x1 hx;obtain⟨rfl,hb⟩:=hx;refine Hid.out ?_);refine hid ?_;replace HB:=hid (HB.out.trans (hb.mono HB.out.size));replace HENV:=hid (HENV.out.ext hb);replace HI:=hid (HI.out.ext hb);replace HT:=hid (HT.out.ext hb);clear hb HCALL;clear cT0 cT1 cT2 cT3 cT4;have cT0:x1.cell? ⟨pT,0,none⟩=some (.int .i64 t.st):=HT.out.cells.1;have cT1:x1.cell? ⟨pT,1,none⟩=some (.int .i64 t.sym):=HT.out.cells.2.1;have cT2:x1.cell? ⟨pT,2,none⟩=some (.slice hA1 t.hood.length hc1):=HT.out.cells.2.2.1;have cT3:x1.cell? ⟨pT,3,none⟩=some (.slice vA1 t.vs.length vc1):=HT.out.cells.2.2.2.1;have cT4:x1.cell? ⟨pT,4,none⟩=some (.slice rA1 t.rs.length rc1):=HT.out.cells.2.2.2.2;have hcall:=rright15_any hA1 hc1 vA1 vc1 rA1 rc1 t x1 HT.out.tb HENV.out.mat;rw[HR.out] at hcall;unfold tabV at hcall;have HCALL:=hid hcall;clear hcall;go_wp2_with (go_at_call 10;refine HCALL.out.mono ?_;intro e x2 hx;obtain⟨rfl,hb⟩:=hx;refine Hid.out ?_);refine hid ?_;replace HB:=hid (HB.out.trans (hb.mono HB.out.size));replace HENV:=hid (HENV.out.ext hb);replace HI:=hid (HI.out.ext hb);replace HT:=hid (HT.out.ext hb);clear hb HCALL;clear cT0 cT1 cT2 cT3 cT4;have cT2:=HT.out.cells.2.2.1;have hcall:=awake_any x2 HENV.out;have HCALL:=hid hcall;clear hcall;go_wp2_with (go_at_call 9;refine HCALL.out.mono ?_;intro e x3 hx;obtain⟨rfl,hb⟩:=hx;refine Hid.out ?_);refine hid ?_;replace HB:=hid (HB.out.trans (hb.mono HB.out.size));replace HENV:=hid (HENV.out.ext hb);replace HI:=hid (HI.out.ext hb);replace HT:=hid (HT.out.ext hb);clear hb HCALL;go_wp2;go_ret;exact⟨rfl,HB.out⟩
end Go.Proofs.YtcmbdhopmncmnaaGreatDoor
