/-
  texts TxtP11 Txa11 Few11P Text11 RTab11 AwkM11: parts of the proof; conditions stand with each theorem.
-/
import Derived.Test.YtcmbdhopmncmnaaGreatDoorWG8
import Derived.Test.YtcmbdhopmncmnaaGreatDoorWG9
import Derived.Test.YtcmbdhopmncmnaaGreatDoorWG12
import Derived.Test.YtcmbdhopmncmnaaGreatDoorWG13
import Derived.Test.YtcmbdhopmncmnaaGreatDoorShelf
import Derived.Test.YtcmbdhopmncmnaaGreatDoorWG1
import Derived.Test.YtcmbdhopmncmnaaGreatDoorWG7
import Derived.Test.YtcmbdhopmncmnaaGreatDoorWG11
import Derived.Test.YtcmbdhopmncmnaaGreatDoorWG4
import Derived.Test.YtcmbdhopmncmnaaGreatDoorWG6
namespace Go.Proofs.YtcmbdhopmncmnaaGreatDoor
set_option linter.unusedVariables false
set_option linter.unusedSimpArgs false
set_option maxRecDepth 100000
def nmTo (h:List (Int × Int)):Nat→Wd
 | 0=>[]
 | k+1=>if hoodsP.getD k []=h then hoodsW.getD k [] else nmTo h k
theorem nmTo_hit {h:List (Int × Int)}{k:Nat}(e:hoodsP.getD k []=h):nmTo h (k+1)=hoodsW.getD k []:=if_pos e
theorem nmTo_miss {h:List (Int × Int)}{k:Nat}(e:¬ hoodsP.getD k []=h):nmTo h (k+1)=nmTo h k:=if_neg e
theorem nmTo_all (h:List (Int × Int)):(∃ k,k < 4∧placeH h 0 hoodsP=some k∧nmTo h 4=hoodsW.getD k []∧nmTo h 4≠[])∨(placeH h 0 hoodsP=none∧nmTo h 4=[]):=by
 by_cases h0:h=mooreP
 ·subst h0;exact .inl ⟨0,by decide⟩
 by_cases h1:h=neumP
 ·subst h1;exact .inl ⟨1,by decide⟩
 by_cases h2:h=hexP
 ·subst h2;exact .inl ⟨2,by decide⟩
 by_cases h3:h=line11
 ·subst h3;exact .inl ⟨3,by decide⟩
 refine .inr ⟨?_,?_⟩
 ·unfold hoodsP placeH;rw[if_neg (fun e=>h0 e.symm)];unfold placeH;rw[if_neg (fun e=>h1 e.symm)];unfold placeH;rw[if_neg (fun e=>h2 e.symm)];unfold placeH;rw[if_neg (fun e=>h3 e.symm)];rfl
 ·rw[nmTo_miss (k:=3) (fun e=>h3 e.symm),nmTo_miss (k:=2) (fun e=>h2 e.symm),nmTo_miss (k:=1) (fun e=>h1 e.symm),nmTo_miss (k:=0) (fun e=>h0 e.symm)];rfl
theorem named_hoods:∀ k,k < 4→namedL (hoodsW.getD k [])=hoodsP.getD k []:=by decide
theorem nmTo_len (h:List (Int × Int)):(nmTo h 4).length≤7:=by
 rcases nmTo_all h with ⟨k,hk,-,e,-⟩ | ⟨-,e⟩
 ·rw[e];exact (words_len k hk).1
 ·rw[e];exact Nat.zero_le _
theorem varsT_snoc:∀ (vs:List (List Int))(v:Nat)(l:List Int),varsT11 v (vs ++ [l])=varsT11 v vs ++ varT11 (v+vs.length) l
 | [],v,l=>by simp[varsT11]
 | x :: vs,v,l=>by
  rw[List.cons_append];unfold varsT11;rw[varsT_snoc vs (v+1) l,List.append_assoc,List.length_cons,show v+1+vs.length=v+(vs.length+1) by omega]
theorem varsT_take {vs:List (List Int)}{k:Nat}(h:k < vs.length):varsT11 0 (vs.take (k+1))=varsT11 0 (vs.take k) ++ varT11 k vs[k]:=by
 rw[List.take_succ_eq_append_getElem h,varsT_snoc,List.length_take,Nat.zero_add,Nat.min_eq_left (Nat.le_of_lt h)]
theorem flat_take {α:Type}{f:α→List UInt8}{l:List α}{k:Nat}(h:k < l.length):(l.take (k+1)).flatMap f=(l.take k).flatMap f ++ f l[k]:=by
 rw[List.take_succ_eq_append_getElem h,List.flatMap_append,List.flatMap_cons,List.flatMap_nil,List.append_nil]
def vpre (v:Nat):List UInt8:=varW ++ 32 :: 118 :: Lib.decDigits v
def stT (s:Int):List UInt8:=32 :: Lib.decDigits s.toNat
theorem varT_eq (v:Nat)(l:List Int):varT11 v l=vpre v ++ l.flatMap stT ++ [10]:=rfl
def enT (e:Int):List UInt8:=elT e ++ [32]
theorem rowT_eq (r:Rw):rowT11 r=r.1.flatMap enT ++ (([45,62,32] ++ elT r.2) ++ [10]):=by
 unfold rowT11;rw[List.append_assoc];rfl
theorem varsTo_len {t:TabL}(hr:rightTab t=true)(hv:∀ l ∈ t.vars,l.length≤30)(k:Nat):(varsT11 0 (t.vars.take k)).length≤2720:=by
 obtain⟨⟨h2,h8⟩,hh,hp,hv4,hn4,hva,hro⟩:=rightTab_parts hr;have h:=vars_len h8 (t.vars.take k) 0 (by rw[List.length_take];omega) (fun l hl=>hva l (List.mem_of_mem_take hl)) (fun l hl=>hv l (List.mem_of_mem_take hl));rw[List.length_take] at h;omega
theorem statesTo_len {st:Int}(h8:st≤8){l:List Int}(h:okVar st l=true)(hl:l.length≤30)(k:Nat):((l.take k).flatMap stT).length≤60:=by
 unfold okVar at h;rw[Bool.and_eq_true] at h;obtain⟨h1,-,-⟩:=okVarS_parts l none h.2;have a:=flat_len (f:=stT) (m:=2) (l:=l.take k) (fun s hs=>by
  have:=h1 s (List.mem_of_mem_take hs);have:=d11_len (k:=0) s.toNat (by omega);unfold stT;rw[List.length_cons];omega)
 rw[List.length_take] at a;omega
theorem rowsTo_len {t:TabL}(hr:rightTab t=true)(hn:t.rows.length≤30)(k:Nat):((t.rows.take k).flatMap rowT11).length≤3210:=by
 obtain⟨⟨h2,h8⟩,hh,hp,hv4,hn4,hva,hro⟩:=rightTab_parts hr;have hl:=hoodB_len hh;have b:=flat_len (f:=rowT11) (m:=4*t.hood.length+7) (l:=t.rows.take k) (fun r hr=>row_len hv4 h8 (hro r (List.mem_of_mem_take hr)));have b2:(4*t.hood.length+7)*(t.rows.take k).length≤107*30:=Nat.mul_le_mul (by omega) (by rw[List.length_take];omega);omega
theorem insTo_len {st:Int}{nv nh:Nat}{r:Rw}(hnv:nv≤40)(hst:st≤8)(hnh:nh≤25)(h:okRow st nv nh r=true)(k:Nat):((r.1.take k).flatMap enT).length≤100:=by
 obtain⟨h1,-,-⟩:=okRow_parts hnv h;unfold okRow at h;simp only[Bool.and_eq_true,decide_eq_true_eq] at h;obtain⟨⟨⟨-,h2⟩,-⟩,h4⟩:=h;have a:=flat_len (f:=enT) (m:=4) (l:=r.1.take k) (fun e he=>by
  have:=el_len hnv hst (List.all_eq_true.1 h4 e (List.mem_of_mem_take he));unfold enT;rw[List.length_append];simpa using this)
 rw[List.length_take] at a;omega
theorem sym_range {t:TabL}(hr:rightTab t=true):0≤t.sym∧t.sym < 4:=by
 obtain⟨-,-,h4,-⟩:=rightTab_parts hr;unfold permP at h4;by_cases a0:t.sym=0
 ·omega
 ·rw[if_neg a0] at h4;by_cases a1:t.sym=1
  ·omega
  ·rw[if_neg a1] at h4;by_cases a2:t.sym=2
   ·omega
   ·rw[if_neg a2] at h4;by_cases a3:t.sym=3
    ·omega
    ·rw[if_neg a3] at h4;cases h4
theorem row_els {st:Int}{nv nh:Nat}{r:Rw}(hnv:nv≤40)(hst:st≤8)(h:okRow st nv nh r=true):(∀ e ∈ r.1,-100≤e∧e < 100∧(elT e).length≤3)∧(-100≤r.2∧r.2 < 100∧(elT r.2).length≤3)∧r.1.length=nh:=by
 have key:∀ e,elB st nv e=true→-100≤e∧e < 100∧(elT e).length≤3:=fun e he=>by
  have h2:=el_len hnv hst he;unfold elB at he;rw[Bool.and_eq_true,decide_eq_true_eq,decide_eq_true_eq] at he;omega
 obtain⟨h1,-,-⟩:=okRow_parts hnv h;unfold okRow at h;simp only[Bool.and_eq_true,decide_eq_true_eq] at h;exact⟨fun e he=>key e (List.all_eq_true.1 h.2 e he),key _ h.1.1.2,h1⟩
theorem var_els {st:Int}{l:List Int}(hst:st≤8)(h:okVar st l=true):∀ s ∈ l,0≤s∧s < 8:=fun s hs=>by
 unfold okVar at h;rw[Bool.and_eq_true] at h;have:=(okVarS_parts l none h.2).1 s hs;omega
theorem not_big {n:Nat}(h:n≤100000):¬ 9223372036854775807 < n:=by omega
theorem lt_int {i n:Nat}(h:i < n):(i:Int) < (n:Int):=by omega
end Go.Proofs.YtcmbdhopmncmnaaGreatDoor
namespace Go.Proofs.YtcmbdhopmncmnaaGreatDoor
open Lib(hid)
open Go.RowKit Go.Shelf
set_option maxRecDepth 100000
set_option linter.unusedVariables false
set_option linter.unusedSimpArgs false
theorem itoaN_any (n:Int)(h0:0≤n)(h1:n < 100)(w:World):Calls Tryz.prog 57 #[.int .i64 n] w fun e w'=>e=.returned (.string ⟨(Lib.decDigits n.toNat).toArray⟩)∧w'=w:=by
 have h:=Tryz.strconv_Itoa_small n.toNat (by omega) w;rw[show ((n.toNat:Nat):Int)=n by omega] at h;exact h
theorem wrap_n {i n:Nat}(h:i < n)(hn:n≤1000):wrap64 ((i:Int)+1)=(i:Int)+1:=by unfold wrap64;omega
theorem len2 {a b:List UInt8}{m n k:Nat}(h1:a.length≤m)(h2:b.length≤n)(h3:m+n≤k):(a ++ b).length≤k:=by rw[List.length_append];omega
theorem bytes_app (a b:List UInt8):(⟨a.toArray⟩:ByteArray) ++ ⟨b.toArray⟩=⟨(a ++ b).toArray⟩:=by
 rw[ByteArray.ext_iff,ByteArray.data_append]
 simp
theorem cat2 (a b:List UInt8):Value.string (⟨a.toArray⟩ ++ ⟨b.toArray⟩)=.string ⟨(a ++ b).toArray⟩:=by rw[bytes_app]
theorem dec1_len {n:Int}(h0:0≤n)(h:n < 100):(Lib.decDigits n.toNat).length≤2:=d11_len (k:=1) n.toNat (by omega)
set_option maxHeartbeats 1000000 in
theorem elem_any (n:Int)(h0:-100≤n)(h1:n < 100)(w:World):Calls Tryz.prog 58 #[.int .i64 n] w fun e w'=>e=.returned (.string ⟨(elT n).toArray⟩)∧w'=w:=by
 by_cases h:n < 0
 ·have d0:decide (n < 0)=true:=decide_eq_true h;have hw:wrap64 (-1 - n) = -1 - n:=by unfold wrap64;omega
  have HI:=hid (itoaN_any (-1 - n) (by omega) (by omega) w);have HE:Hid (elT n=[118] ++ Lib.decDigits (-1 - n).toNat):=hid (by unfold elT;rw[if_pos h];rfl);have hl:(Lib.decDigits (-1 - n).toNat).length≤2:=dec1_len (by omega) (by omega);obtain⟨ds,hd⟩:∃ ds,ds=Lib.decDigits (-1 - n).toNat:=⟨_,rfl⟩
  rw[← hd] at HI HE hl;have hle:¬ 9223372036854775807 < 1+ds.length:=by omega
  clear hd h hl h0 h1;go_enter Tryz.func58,Tryz.ntmps58;go_wp2_with fail;refine HI.out.mono ?_;rintro e w' ⟨rfl,rfl⟩;clear HI;go_wp2;go_ret;rw[HE.out,← cat2];exact⟨rfl,rfl⟩
 ·have d0:decide (n < 0)=false:=decide_eq_false h;have HI:=hid (itoaN_any n (by omega) (by omega) w);have HE:Hid (elT n=Lib.decDigits n.toNat):=hid (by unfold elT;rw[if_neg h]);obtain⟨ds,hd⟩:∃ ds,ds=Lib.decDigits n.toNat:=⟨_,rfl⟩
  rw[← hd] at HI HE;clear hd h h0 h1;go_enter Tryz.func58,Tryz.ntmps58;go_wp2_with fail;refine HI.out.mono ?_;rintro e w' ⟨rfl,rfl⟩;clear HI;go_wp2;go_ret;rw[HE.out];exact⟨rfl,rfl⟩
end Go.Proofs.YtcmbdhopmncmnaaGreatDoor
namespace Go.Proofs.YtcmbdhopmncmnaaGreatDoor
set_option linter.unusedSimpArgs false
set_option linter.unusedVariables false
theorem few11_parts {t:TabH}(h:few11 t.tab=true):t.hood.length≤30∧t.vs.length≤50∧t.rs.length≤30∧(∀ l ∈ t.tab.vars,l.length≤30)∧∀ r ∈ t.tab.rows,r.1.length≤30:=by
 unfold few11 at h;simp only[Bool.and_eq_true,Bool.not_eq_true',Bool.or_eq_false_iff,decide_eq_false_iff_not,List.any_eq_false,decide_eq_true_eq] at h;obtain⟨⟨⟨⟨h1,h2⟩,h3⟩,h4⟩,h5⟩:=h;have e2:t.tab.vars.length=t.vs.length:=by unfold TabH.tab;simp
 have e3:t.tab.rows.length=t.rs.length:=by unfold TabH.tab;simp
 have e1:t.tab.hood.length=t.hood.length:=rfl;exact⟨by omega,by omega,by omega,fun l hl=>by have:=h4 l hl;omega,fun r hr=>by have:=h5 r hr;omega⟩
end Go.Proofs.YtcmbdhopmncmnaaGreatDoor
namespace Go.Proofs.YtcmbdhopmncmnaaGreatDoor
open Lib(hid)
open Go.RowKit Go.Shelf
set_option maxRecDepth 100000
set_option linter.unusedVariables false
set_option linter.unusedSimpArgs false
theorem builder_ext {T e:TypeId}{B b:Nat}{p:Value}{bs:List Value}{w w':World}(h:Lib.BuilderAt T e B b p bs w)(hb:Below w.heap.size w w'):Lib.BuilderAt T e B b p bs w':=by
 have hlt:=h.lt;obtain⟨hB,v,h1,h2,h3⟩:=h;exact⟨hB,v,by rw[hb.block b hlt];exact h1,own_below h2 hb,h3⟩
theorem isBuilder_ext {T e:TypeId}{B b:Nat}{bs:List Value}{w w':World}(h:Lib.IsBuilder T e B b bs w)(hb:Below w.heap.size w w'):Lib.IsBuilder T e B b bs w':=by
 rcases h with h | h
 ·exact .inl (builder_ext h hb)
 ·exact .inr (builder_ext h hb)
def BD (B:Nat)(L:List UInt8)(w:World):Prop:=Lib.BuilderAt 80 5 B B (.pointer (some ⟨B,0,none⟩)) (Lib.byteCells L) w
theorem BD.ext {B:Nat}{L:List UInt8}{w w':World}(h:BD B L w)(hb:Below w.heap.size w w'):BD B L w':=builder_ext h hb
theorem cells_app (a b:List UInt8):Lib.byteCells a ++ Lib.strCells ⟨b.toArray⟩=Lib.byteCells (a ++ b):=by simp[Lib.byteCells,Lib.strCells]
theorem wr_any (B:Nat)(L s:List UInt8)(w:World)(h:Lib.IsBuilder 80 5 B B (Lib.byteCells L) w)(hl:L.length+s.length≤100000)(hB:B≤w.heap.size) :
  Calls Tryz.prog 56 #[.pointer (some ⟨B,0,none⟩),.string ⟨s.toArray⟩] w fun e w'=>(∃ v,e=.returned (.tuple #[v,.nilIface]))∧BD B (L ++ s) w'∧Below B w w'∧KeptB B w w':=by
 have hs:(⟨s.toArray⟩:ByteArray).size=s.length:=by simp[ByteArray.size]
 refine (writeStringK_any B B (Lib.byteCells L) ⟨s.toArray⟩ w h (by rw[Lib.byteCells_length,hs];omega) hB).mono ?_;rintro e w' ⟨rfl,h1,h2,h3⟩;rw[cells_app] at h1;exact⟨⟨_,rfl⟩,h1,h2,h3⟩
theorem below_qt {w w':World}(h:Qt w w'):Below w.heap.size w w':=by obtain⟨k,rfl⟩:=h;exact below_drewN (Below.refl _ _) _
theorem wr2_any (B:Nat)(L a b:List UInt8)(w:World)(h:Lib.IsBuilder 80 5 B B (Lib.byteCells L) w)(hl:L.length+(a.length+b.length)≤100000)(hB:B≤w.heap.size) :
  Calls Tryz.prog 56 #[.pointer (some ⟨B,0,none⟩),.string (⟨a.toArray⟩ ++ ⟨b.toArray⟩)] w fun e w'=>(∃ v,e=.returned (.tuple #[v,.nilIface]))∧BD B (L ++ (a ++ b)) w'∧Below B w w'∧KeptB B w w':=by
 rw[bytes_app];exact wr_any B L (a ++ b) w h (by rw[List.length_append];exact hl) hB
theorem wr3_any (B:Nat)(L a b c:List UInt8)(w:World)(h:Lib.IsBuilder 80 5 B B (Lib.byteCells L) w)(hl:L.length+(a.length+b.length+c.length)≤100000)(hB:B≤w.heap.size) :
  Calls Tryz.prog 56 #[.pointer (some ⟨B,0,none⟩),.string (⟨a.toArray⟩ ++ ⟨b.toArray⟩ ++ ⟨c.toArray⟩)] w fun e w'=>(∃ v,e=.returned (.tuple #[v,.nilIface]))∧BD B (L ++ ((a ++ b) ++ c)) w'∧Below B w w'∧KeptB B w w':=by
 rw[bytes_app];exact wr2_any B L (a ++ b) c w h (by rw[List.length_append];exact hl) hB
theorem itoaK_any (k:Nat)(h:k < 100)(w:World):Calls Tryz.prog 57 #[.int .i64 (k:Int)] w fun e w'=>e=.returned (.string ⟨(Lib.decDigits k).toArray⟩)∧w'=w:=itoaN_any k (by omega) (by omega) w
theorem BD.lt {B:Nat}{L:List UInt8}{w:World}(h:BD B L w):B < w.heap.size:=Lib.BuilderAt.lt h
theorem len4 {a b d:List UInt8}(h1:a.length≤6000)(h2:b.length≤100)(h3:d.length≤3):(a ++ b).length+(([45,62,32]:List UInt8).length+d.length+([10]:List UInt8).length)≤100000:=by
 rw[List.length_append];simp only[List.length_cons,List.length_nil];omega
theorem meas_t {n k:Nat}(h:k < n):n - (intOf (.int .i64 ((k:Int)+1))).toNat < n - (intOf (.int .i64 (k:Int))).toNat:=by
 simp[intOf];omega
structure NmJ (w0:World)(P:Nat)(hA:Option Addr)(hc:Nat)(hood:List (Int × Int))(sb:ByteArray)(b0 b1 b2 b3 b4:Bool)(v25 v26 v27 v28 v29:Value)(w:World):Prop where
 below:Below w0.heap.size w0 w
 h0:b0=true→v25=.string sb
 h1:b1=true→∃ A c,v26=.slice A (namedL sb.data.toList).length c∧Pts w A (namedL sb.data.toList)
 h2:b2=true→v27=.pointer (some ⟨P,2,none⟩)
 h3:b3=true→v28=.slice hA hood.length hc
 h4:b4=true→v29=.bool (decide (namedL sb.data.toList=hood))
section
variable {w0 : World} {P : Nat} {hA : Option Addr} {hc : Nat} {hood : List (Int × Int)} {sb : ByteArray} {b0 b1 b2 b3 b4 : Bool} {v25 v26 v27 v28 v29 : Value} {w w' : World}
theorem NmJ.world (H:NmJ w0 P hA hc hood sb b0 b1 b2 b3 b4 v25 v26 v27 v28 v29 w)(hb:Below w.heap.size w w'):NmJ w0 P hA hc hood sb b0 b1 b2 b3 b4 v25 v26 v27 v28 v29 w':=
 {H with below:=H.below.trans (hb.mono H.below.size),h1:=fun h=>by obtain⟨A,c,e,hp⟩:=H.h1 h;exact⟨A,c,e,hp.ext hb⟩ }
end
structure HdJ (w0:World)(P:Nat)(B:Nat)(st:Int)(sym:Int)(ds:List UInt8)(nm:List UInt8)(sy:List UInt8)(L3:List UInt8)(L4:List UInt8)(L6:List UInt8)(L7:List UInt8)(L12:List UInt8)(L13:List UInt8)(b0 b1 b2 b3 b4 b5 b6 b7 b8 b9 b10 b11 b12 b13 b14:Bool)(v34 v35 v36 v37 v38 v39 v40 v41 v42 v43 v44 v45 v46 v47 v48:Value)(w:World):Prop where
 below:Below B w0 w
 bld:b14=false→Lib.IsBuilder 80 5 B B (Lib.byteCells []) w
 h0:b0=true→v34=.pointer (some ⟨P,0,none⟩)
 h1:b1=true→v35=.int .i64 st
 h2:b2=true→v36=.string ⟨ds.toArray⟩
 h3:b3=true→v37=.string ⟨L3.toArray⟩
 h4:b4=true→v38=.string ⟨L4.toArray⟩
 h5:b5=true→v39=.string ⟨nm.toArray⟩
 h6:b6=true→v40=.string ⟨L6.toArray⟩
 h7:b7=true→v41=.string ⟨L7.toArray⟩
 h8:b8=true→v42=.pointer (some ⟨P,1,none⟩)
 h9:b9=true→v43=.int .i64 sym
 h10:b10=true→v44=.pointer (some ⟨0,sym.toNat,none⟩)
 h11:b11=true→v45=.string ⟨sy.toArray⟩
 h12:b12=true→v46=.string ⟨L12.toArray⟩
 h13:b13=true→v47=.string ⟨L13.toArray⟩
 h14:b14=true→BD B L13 w
set_option maxHeartbeats 16000000 in
theorem text_any (hA:Option Addr)(hc:Nat)(vA:Option Addr)(vc:Nat)(rA:Option Addr)(rc:Nat)(t:TabH)(w:World)(hT:TabR w hA vA rA t)(hG:GMat w)(hSG:SymG w)(hfew:few11 t.tab=true) :
  Calls Tryz.prog 20 #[tabV hA hc vA vc rA rc t] w fun e w'=>e=.returned (.string ⟨(text11 t.tab).toArray⟩)∧Below w.heap.size w w':=by
 obtain⟨hf1,hf2,hf3,hf4,hf5⟩:=few11_parts hfew;obtain⟨w0,hw0⟩:∃ w0,w0=w.alloc (.cells #[.int .i64 t.st,.int .i64 t.sym,.slice hA t.hood.length hc,.slice vA t.vs.length vc,.slice rA t.rs.length rc] 26):=⟨_,rfl⟩
 have hb0:Below w.heap.size w w0:=by rw[hw0];exact below_new _ _
 have p0:Blk w0 w.heap.size 26 #[.int .i64 t.st,.int .i64 t.sym,.slice hA t.hood.length hc,.slice vA t.vs.length vc,.slice rA t.rs.length rc]:=by rw[hw0];exact Blk.new _ _ _
 obtain⟨P,hPe⟩:∃ P,P=w.heap.size:=⟨_,rfl⟩
 rw[← hPe] at p0;have HR:=hid (rright15_any hA hc vA vc rA rc t w0 (hT.ext hb0) (hG.ext hb0));have HTX:Hid (text11 t.tab=if rightTab t.tab=false then [] else match placeH t.hood 0 hoodsP with
  | none=>[]
  | some k=>head11 t.tab k ++ varsT11 0 t.tab.vars ++ t.tab.rows.flatMap rowT11):=hid rfl
 obtain⟨TL,hTL⟩:∃ x,x=t.tab:=⟨_,rfl⟩
 have htl:TL.st=t.st∧TL.sym=t.sym∧TL.hood=t.hood∧TL.vars=t.vs.map Vh.zs∧TL.rows=t.rs.map Rh.rw_:=by rw[hTL];exact⟨rfl,rfl,rfl,rfl,rfl⟩
 rw[← hTL] at HR HTX hf4 hf5 ⊢;have HTL:=hid htl;clear hTL htl;obtain⟨res,hres⟩:∃ r,r=text11 TL:=⟨_,rfl⟩
 rw[← hres] at HTX ⊢;have HB0:=hid hb0;have HTR:=hid (hT.ext hb0);have HG0:=hid (hG.ext hb0);have HSG0:=hid (Sts.ext hSG hb0);have HFW:=hid (And.intro hf2 (And.intro hf3 (And.intro hf4 hf5)));have hh9:t.hood.length≤9223372036854775807:=hT.hood.le;have hv9:t.vs.length≤9223372036854775807:=hT.vars.le;have hr9:t.rs.length≤9223372036854775807:=hT.rows.le;have HPE:=hid hPe;have HPP:=hid p0;have HW0:=hid hw0;obtain⟨st,sym,hood,vs,rs⟩:=t;dsimp only at HTX HTL HTR HPP HW0 HFW hh9 hv9 hr9;have x0:=HPP.out.cell_ 0 (.int .i64 st) rfl;have x1:=HPP.out.cell_ 1 (.int .i64 sym) rfl;have x2:=HPP.out.cell_ 2 (.slice hA hood.length hc) rfl;have x3:=HPP.out.cell_ 3 (.slice vA vs.length vc) rfl;have x4:=HPP.out.cell_ 4 (.slice rA rs.length rc) rfl;unfold tabV at HR ⊢;dsimp only at HR ⊢;clear hw0 hb0 hT hG hSG hf1 hf2 hf3 hf4 hf5 hfew hres p0 hPe;cases hr:rightTab TL with
 | false=>
  have HE:Hid (res=[]):=hid (by rw[HTX.out,if_pos hr]);rw[hr] at HR;clear hr HTX;go_enter Tryz.func20,Tryz.ntmps20;go_upto_region 1 with fail
  rw[← HW0.out,← HPE.out];go_wp2_with (go_at_call 10;refine HR.out.mono ?_;rintro e w1 ⟨rfl,hb1⟩;refine Hid.out ?_);refine hid ?_;have HB1:=hid hb1;have HP1:=hid (HPP.out.below hb1 HPP.out.lt);have HTR1:=hid (HTR.out.ext hb1);have HSG1:=hid (HSG0.out.ext hb1);clear hb1 x0 x1 x2 x3 x4 HR;go_wp2;go_ret;rw[HE.out];exact⟨rfl,HB0.out.trans (HB1.out.mono HB0.out.size)⟩
 | true=>
  have HRT:=hid hr;rw[hr] at HR;have HTX2:Hid (res=match placeH hood 0 hoodsP with
   | none=>[]
   | some k=>head11 TL k ++ varsT11 0 TL.vars ++ TL.rows.flatMap rowT11):=hid (by rw[HTX.out,if_neg (by rw[hr];simp)])
  clear hr HTX;go_enter Tryz.func20,Tryz.ntmps20;go_upto_region 1 with fail
  rw[← HW0.out,← HPE.out];go_wp2_with (go_at_call 10;refine HR.out.mono ?_;rintro e w1 ⟨rfl,hb1⟩;refine Hid.out ?_);refine hid ?_;have HB1:=hid hb1;have HP1:=hid (HPP.out.below hb1 HPP.out.lt);have HTR1:=hid (HTR.out.ext hb1);have HSG1:=hid (HSG0.out.ext hb1);clear hb1 x0 x1 x2 x3 x4 HR;have HLT:Hid (P < w1.heap.size):=hid HP1.out.lt;obtain⟨w2,hw2⟩:∃ w2,w2=w1.alloc (.cells #[.string ⟨#[109,111,111,114,101]⟩,.string ⟨#[110,101,117,109,97,110,110]⟩,.string ⟨#[104,101,120]⟩,.string ⟨#[108,105,110,101]⟩] 9):=⟨_,rfl⟩
  have hb2:Below w1.heap.size w1 w2:=by rw[hw2];exact below_new _ _
  have hl2:Sts w2 (some ⟨w1.heap.size,0,none⟩) hoodsB:=by rw[hw2];exact sts_lit w1 hoodsB
  obtain⟨L2,hL2⟩:∃ g,g=w1.heap.size:=⟨_,rfl⟩
  rw[← hL2] at hl2;have HW2:=hid hw2;have HL2:=hid hL2;have HS2:=hid hl2;have HB2:=hid hb2;have HQ2:Hid (P < w2.heap.size):=hid (Nat.lt_of_lt_of_le HLT.out hb2.size);have HTR2:=hid (HTR1.out.ext hb2);have HP2:=hid (HP1.out.below hb2 HLT.out);have HSG2:=hid (HSG1.out.ext hb2);clear hw2 hL2 hl2 hb2;go_wp2;rw[← HW2.out,← HL2.out];go_loopw [3,21] (fun nmv iv wr=>∃ k:Nat,k≤4∧iv=.int .i64 k∧nmv=.string ⟨(nmTo hood k).toArray⟩∧Hid (Below w2.heap.size w2 wr)) (fun _ iv _=>4 - (intOf iv).toNat)
  case atStart=>exact⟨0,Nat.zero_le _,rfl,rfl,hid (Below.refl _ _)⟩
  case round=>
   obtain⟨k,hk,rfl,rfl,HB3⟩:=hrel;by_cases hlt:k < 4
   ·obtain⟨gb,go,e1,-,hcell⟩:=(HS2.out.ext HB3.out).at_ (k:=k) hlt;injection e1 with e1
    injection e1 with e1 e2
    subst e1 e2;obtain⟨hsb1,hsb2⟩:=hoodsB_at (k:=k) hlt;obtain⟨sb,hsb⟩:∃ s,s=hoodsB[k]'hlt:=⟨_,rfl⟩
    rw[← hsb,Nat.zero_add] at hcell;rw[← hsb] at hsb1 hsb2;have dki:(k:Int) < 4:=by omega
    have HSB1:=hid hsb1;have HSB2:=hid hsb2;have HP3:=hid (HP2.out.below HB3.out HQ2.out);have HTR3:=hid (HTR2.out.ext HB3.out);have hwk:wrap64 ((k:Int)+1)=(k:Int)+1:=by unfold wrap64;omega
    have dlt:decide ((k:Int) < 4)=true:=decide_eq_true (by omega);have HLK:=hid hlt;clear hsb hsb1 hsb2 hk hlt;go_upto_region 7 with fail
    refine wp_region_J (by kernel_rfl) (fun listed act w'=>∃ b0 b1 b2 b3 b4 v25 v26 v27 v28 v29,listed=#[b0,b1,b2,b3,b4]∧act=Act.mk #[.agg #[.int .i64 st,.int .i64 sym,.slice hA hood.length hc,.slice vA vs.length vc,.slice rA rs.length rc],.pointer (some ⟨P,0,none⟩),.string ⟨#[]⟩,.string ⟨(nmTo hood k).toArray⟩,undef,.string sb,undef,undef,undef,undef,undef,undef,undef,undef,undef,undef,.agg #[.int .i64 st,.int .i64 sym,.slice hA hood.length hc,.slice vA vs.length vc,.slice rA rs.length rc],.bool true,.bool false,.slice (some ⟨L2,0,none⟩) 4 4,.int .i64 4,.int .i64 (k:Int),.bool true,.pointer (some ⟨L2,k,none⟩),.string sb,v25,v26,v27,v28,v29,u30,u31,undef,undef,undef,undef,undef,undef,undef,undef,undef,undef,undef,undef,undef,undef,undef,undef,undef,undef,undef,undef,undef,undef,undef,undef,undef,undef,undef,undef,undef,undef,undef,undef,undef,undef,undef,undef,undef,undef,undef,undef,undef,undef,undef,undef,undef,undef,undef,undef,undef,undef,undef,undef,undef,undef,undef,undef,undef,undef,undef,undef,undef,undef,undef,undef,undef,undef,undef,undef,undef,undef,undef] []∧NmJ wr P hA hc hood sb b0 b1 b2 b3 b4 v25 v26 v27 v28 v29 w') ?_ ?_ ?_
    ·exact (e_8 (e_2 ⟨rfl,rfl,(by constructor;(case below=>exact (Below.refl _ wr).drew);all_goals simp)⟩))
    ·rintro i listed act w' hi ⟨b0,b1,b2,b3,b4,v25,v26,v27,v28,v29,rfl,rfl,H⟩;have hi16:i < 5:=by
      obtain⟨-,o,ho,-⟩:=mem_ready.1 hi;exact (Array.getElem?_eq_some_iff.1 ho).1
     obtain rfl | rfl | rfl | rfl | rfl:i=0∨i=1∨i=2∨i=3∨i=4:=by omega
     all_goals simp[mem_ready,Region.binds] at hi
     ·refine wpOp_hidden rfl fun K hK=>?_;go_wp2;refine OnlyN.mk (hK.out _ _ (e_8 (e_2 ⟨rfl,rfl,{ H with h0:=fun _=>rfl }⟩)))
     ·obtain rfl:=H.h0 (by simp[hi]);have HC:=hid (cnamed_any sb w');have HH:=hid H;clear H;refine wpOp_hidden rfl fun K hK=>?_;go_wp2_with (go_at_call 55;refine HC.out.mono ?_;rintro e w9 ⟨A,c,rfl,hp,-,hb9,-⟩;refine Hid.out ?_);refine hid ?_;have HA:=hid (HH.out.world hb9);have HPP9:=hid hp;clear hb9 hp;go_wp2;refine OnlyN.mk (hK.out _ _ (e_8 (e_2 ⟨rfl,rfl,⟨HA.out.below,HA.out.h0,fun _=>⟨A,c,rfl,HPP9.out⟩,HA.out.h2,HA.out.h3,HA.out.h4⟩⟩)))
     ·refine wpOp_hidden rfl fun K hK=>?_;go_wp2;refine OnlyN.mk (hK.out _ _ (e_8 (e_2 ⟨rfl,rfl,{ H with h2:=fun _=>rfl }⟩)))
     ·obtain rfl:=H.h2 (by simp[hi]);have cc:=(HP3.out.below H.below HP3.out.lt).cell_ 2 (.slice hA hood.length hc) rfl;refine wpOp_hidden rfl fun K hK=>?_;go_wp2;refine OnlyN.mk (hK.out _ _ (e_8 (e_2 ⟨rfl,rfl,{ H with h3:=fun _=>rfl }⟩)))
     ·obtain rfl:=H.h3 (by simp[hi]);obtain⟨A,c,rfl,hp⟩:=H.h1 (by simp[hi]);have HC:=hid (hsame_any A hA (namedL sb.data.toList) hood c hc w' hp (HTR3.out.hood.ext H.below));have HH:=hid H;clear H hp;refine wpOp_hidden rfl fun K hK=>?_;go_wp2_with (go_at_call 54;refine HC.out.mono ?_;rintro e w9 ⟨rfl,hq⟩;refine Hid.out ?_);refine hid ?_;have HA:=hid (HH.out.world (below_qt hq));clear hq;go_wp2;refine OnlyN.mk (hK.out _ _ (e_8 (e_2 ⟨rfl,rfl,⟨HA.out.below,HA.out.h0,HA.out.h1,HA.out.h2,HA.out.h3,fun _=>rfl⟩⟩)))
    ·rintro listed act w' hr ⟨b0,b1,b2,b3,b4,v25,v26,v27,v28,v29,rfl,rfl,H⟩;have hn:=List.eq_nil_iff_forall_not_mem.1 hr;have r0:=hn 0;simp[mem_ready,Region.binds] at r0;subst r0;have r1:=hn 1;simp[mem_ready,Region.binds] at r1;subst r1;have r2:=hn 2;simp[mem_ready,Region.binds] at r2;subst r2;have r3:=hn 3;simp[mem_ready,Region.binds] at r3;subst r3;have r4:=hn 4;simp[mem_ready,Region.binds] at r4;subst r4;obtain rfl:=H.h4 rfl;have HB4:=hid (HB3.out.trans (H.below.mono HB3.out.size));clear H hr hn;have hnm:namedL sb.data.toList=hoodsP.getD k []:=by rw[HSB2.out,named_hoods k HLK.out]
     rw[hnm];by_cases he:hoodsP.getD k []=hood
     ·have hd:decide (hoodsP.getD k []=hood)=true:=decide_eq_true he;have HN:=hid (nmTo_hit he);rw[hd];clear hd he hnm;go_wp2;go_roundw
      case rel=>exact⟨k+1,HLK.out,by go_num,by rw[HN.out,HSB1.out],HB4⟩
      case measure=>(try rw[hwk]);exact meas_t HLK.out
     ·have hd:decide (hoodsP.getD k []=hood)=false:=decide_eq_false he;have HN:=hid (nmTo_miss he);rw[hd];clear hd he hnm;go_wp2;go_roundw
      case rel=>exact⟨k+1,HLK.out,by go_num,by rw[HN.out],HB4⟩
      case measure=>(try rw[hwk]);exact meas_t HLK.out
   ·obtain rfl:k=4:=by omega
    clear hk hlt;obtain⟨nm,hnm0⟩:∃ n,n=nmTo hood 4:=⟨_,rfl⟩
    have hall:=nmTo_all hood;have hnl:=nmTo_len hood;rw[← hnm0] at hall hnl ⊢;rcases hall with ⟨kk,hk4,hpl,hnm,hne⟩ | ⟨hpl,hnm⟩
    rotate_left
    ·have dn:List.isEmpty nm=true:=by rw[hnm];rfl
     have HE:Hid (res=[]):=hid (by rw[HTX2.out,hpl]);have HBF:=hid (HB0.out.trans ((HB1.out.trans ((HB2.out.trans (HB3.out.mono HB2.out.size)).mono HB1.out.size)).mono HB0.out.size));clear hpl hnm hnm0 hnl;go_wp2;go_ret;rw[HE.out];exact⟨rfl,HBF.out⟩
    have dn:List.isEmpty nm=false:=by cases nm with
     | nil=>exact absurd rfl hne
     | cons a l=>rfl
    have HTX3:Hid (res=head11 TL kk ++ varsT11 0 TL.vars ++ TL.rows.flatMap rowT11):=hid (by rw[HTX2.out,hpl]);have HNM:Hid (nm=hoodsW.getD kk []∧nm.length≤7∧kk < 4):=hid ⟨hnm,hnl,hk4⟩;clear hpl hnm hnm0 hne hnl hk4;obtain⟨B,hBe⟩:∃ B,B=wr.heap.size:=⟨_,rfl⟩
    obtain⟨w3,hw3⟩:∃ w3,w3=wr.alloc (.cells #[.pointer none,.slice none 0 0] 80):=⟨_,rfl⟩
    have hb3:Below wr.heap.size wr w3:=by rw[hw3];exact below_new _ _
    have HPB:Hid (P < B):=hid (by rw[hBe];exact Nat.lt_of_lt_of_le HQ2.out HB3.out.size);have HIB:Hid (Lib.IsBuilder 80 5 B B (Lib.byteCells []) w3):=hid (by rw[hBe,hw3];exact Lib.fresh_isBuilder 80 5 wr);have HGB:Hid (0 < B):=hid (by
     obtain⟨g,o,e,h,-⟩:=(HSG2.out.ext HB3.out).at_ (k:=0) (show 0 < 4 by omega);injection e with e
     injection e with e1 e2
     rw[e1,hBe];exact h)
    have hbb:Below w2.heap.size w2 w3:=HB3.out.trans (hb3.mono HB3.out.size);have HPA:=hid (HP2.out.below hbb HQ2.out);have HTRA:=hid (HTR2.out.ext hbb);have HSGA:=hid (HSG2.out.ext hbb);have HBA:Hid (Below w.heap.size w w3):=hid (HB0.out.trans ((HB1.out.trans ((HB2.out.trans (hbb.mono HB2.out.size)).mono HB1.out.size)).mono HB0.out.size));have HSZ:Hid (w3.heap.size=B+1):=hid (by rw[hw3,hBe];simp);have HTB:Hid (∀ W,Below B w3 W→TabR W hA vA rA ⟨st,sym,hood,vs,rs⟩∧Blk W P 26 #[.int .i64 st,.int .i64 sym,.slice hA hood.length hc,.slice vA vs.length vc,.slice rA rs.length rc]):=hid (fun W hW=>by
     have h0:Below wr.heap.size wr W:=hb3.trans (by rw[← hBe];exact hW);exact⟨(HTR2.out.ext HB3.out).ext h0,(HP2.out.below HB3.out HQ2.out).below h0 (Nat.lt_of_lt_of_le HQ2.out HB3.out.size)⟩)
    have HWB:Hid (w.heap.size≤B):=hid (by rw[← HPE.out];exact Nat.le_of_lt HPB.out);have HW3:=hid hw3;have HBE:=hid hBe;obtain⟨hst2,hst8⟩:=(rightTab_parts HRT.out).1;have hsr:=sym_range HRT.out;rw[HTL.out.1] at hst2 hst8;rw[HTL.out.2.1] at hsr;have HST:=hid (And.intro hst2 (And.intro hst8 hsr));obtain⟨ds,hds⟩:∃ d,d=Lib.decDigits st.toNat:=⟨_,rfl⟩
    have hdl:ds.length≤2:=by rw[hds];exact dec1_len (by omega) (by omega)
    obtain⟨sy,hsy⟩:∃ d,d=symsW.getD sym.toNat []:=⟨_,rfl⟩
    have hyl:sy.length≤7:=by rw[hsy];exact (words_len _ (by omega)).2
    obtain⟨L3,e3⟩:∃ l,l=[115,116,97,116,101,115,32] ++ ds:=⟨_,rfl⟩
    obtain⟨L4,e4⟩:∃ l,l=L3 ++ [10,104,111,111,100,32]:=⟨_,rfl⟩
    obtain⟨L6,e6⟩:∃ l,l=L4 ++ nm:=⟨_,rfl⟩
    obtain⟨L7,e7⟩:∃ l,l=L6 ++ [10,115,121,109,109,101,116,114,121,32]:=⟨_,rfl⟩
    obtain⟨L12,e12⟩:∃ l,l=L7 ++ sy:=⟨_,rfl⟩
    obtain⟨L13,e13⟩:∃ l,l=L12 ++ [10]:=⟨_,rfl⟩
    have HLN:Hid (ds.length≤2∧sy.length≤7∧nm.length≤7∧L3.length≤9∧L4.length≤15∧L6.length≤22∧L7.length≤32∧L12.length≤39∧L13.length≤40):=hid (by
     have k3:L3.length=7+ds.length:=by rw[e3];simp;omega
     have k4:L4.length=L3.length+6:=by rw[e4];simp
     have k6:L6.length=L4.length+nm.length:=by rw[e6];simp
     have k7:L7.length=L6.length+10:=by rw[e7];simp
     have k12:L12.length=L7.length+sy.length:=by rw[e12];simp
     have k13:L13.length=L12.length+1:=by rw[e13];simp
     have:=HNM.out.2.1;omega)
    have HHD:Hid (head11 TL kk=L13):=hid (by
     rw[e13,e12,e7,e6,e4,e3,hds,hsy,HNM.out.1];unfold head11;rw[HTL.out.1,HTL.out.2.1];simp[headsW])
    have hIT:=fun W=>itoaN_any st (by omega) (by omega) W;rw[← hds] at hIT;have HIT:=hid hIT;obtain⟨gs,os,es,-,hsc⟩:=HSGA.out.at_ (k:=sym.toNat) (show sym.toNat < 4 by omega);injection es with es
    injection es with es1 es2
    subst es1 es2;rw[Nat.zero_add] at hsc;have hsb:symsB[sym.toNat]'(show sym.toNat < 4 by omega)=⟨sy.toArray⟩:=by rw[hsy];exact syms_at (by omega)
    rw[hsb] at hsc;have HSC:=hid hsc;have E3:=hid e3;have E4:=hid e4;have E6:=hid e6;have E7:=hid e7;have E12:=hid e12;have E13:=hid e13;clear hw3 hBe hb3 hbb hst2 hst8 hsr hds hdl hsy hyl e3 e4 e6 e7 e12 e13 hIT hsc hsb;go_upto_region 13 with fail
    rw[← HW3.out,← HBE.out];refine wp_region_J (by kernel_rfl) (fun listed act w'=>∃ b0 b1 b2 b3 b4 b5 b6 b7 b8 b9 b10 b11 b12 b13 b14 v34 v35 v36 v37 v38 v39 v40 v41 v42 v43 v44 v45 v46 v47 v48,listed=#[b0,b1,b2,b3,b4,b5,b6,b7,b8,b9,b10,b11,b12,b13,b14]∧act=Act.mk #[.agg #[.int .i64 st,.int .i64 sym,.slice hA hood.length hc,.slice vA vs.length vc,.slice rA rs.length rc],.pointer (some ⟨P,0,none⟩),.string ⟨#[]⟩,.string ⟨nm.toArray⟩,undef,u5,.pointer (some ⟨B,0,none⟩),undef,undef,undef,undef,undef,undef,undef,undef,undef,.agg #[.int .i64 st,.int .i64 sym,.slice hA hood.length hc,.slice vA vs.length vc,.slice rA rs.length rc],.bool true,.bool false,.slice (some ⟨L2,0,none⟩) 4 4,.int .i64 4,.int .i64 4,.bool false,u23,u24,u25,u26,u27,u28,u29,u30,u31,.string ⟨nm.toArray⟩,.bool false,v34,v35,v36,v37,v38,v39,v40,v41,v42,v43,v44,v45,v46,v47,v48,undef,undef,undef,undef,undef,undef,undef,undef,undef,undef,undef,undef,undef,undef,undef,undef,undef,undef,undef,undef,undef,undef,undef,undef,undef,undef,undef,undef,undef,undef,undef,undef,undef,undef,undef,undef,undef,undef,undef,undef,undef,undef,undef,undef,undef,undef,undef,undef,undef,undef,undef,undef,undef,undef] []∧HdJ w3 P B st sym ds nm sy L3 L4 L6 L7 L12 L13 b0 b1 b2 b3 b4 b5 b6 b7 b8 b9 b10 b11 b12 b13 b14 v34 v35 v36 v37 v38 v39 v40 v41 v42 v43 v44 v45 v46 v47 v48 w') ?_ ?_ ?_
    ·exact (e_8 (e_8 (e_8 (e_4 (e_2 ⟨rfl,rfl,(by constructor;(case below=>exact ((Below.refl w3.heap.size w3).mono (by have:=HSZ.out;omega)).drew);(case bld=>exact (fun _=>isBuilder_ext HIB.out (Below.refl _ _).drew));all_goals simp)⟩)))))
    ·rintro i listed act w' hi ⟨b0,b1,b2,b3,b4,b5,b6,b7,b8,b9,b10,b11,b12,b13,b14,v34,v35,v36,v37,v38,v39,v40,v41,v42,v43,v44,v45,v46,v47,v48,rfl,rfl,H⟩;have hi16:i < 15:=by
      obtain⟨-,o,ho,-⟩:=mem_ready.1 hi;exact (Array.getElem?_eq_some_iff.1 ho).1
     obtain rfl | rfl | rfl | rfl | rfl | rfl | rfl | rfl | rfl | rfl | rfl | rfl | rfl | rfl | rfl:i=0∨i=1∨i=2∨i=3∨i=4∨i=5∨i=6∨i=7∨i=8∨i=9∨i=10∨i=11∨i=12∨i=13∨i=14:=by omega
     all_goals simp[mem_ready,Region.binds] at hi
     ·refine wpOp_hidden rfl fun K hK=>?_;go_wp2;refine OnlyN.mk (hK.out _ _ (e_8 (e_8 (e_8 (e_4 (e_2 ⟨rfl,rfl,{ H with h0:=fun _=>rfl }⟩))))))
     ·obtain rfl:=H.h0 (by simp[hi]);have cc:=(HPA.out.below H.below HPB.out).cell_ 0 (.int .i64 st) rfl;refine wpOp_hidden rfl fun K hK=>?_;go_wp2;refine OnlyN.mk (hK.out _ _ (e_8 (e_8 (e_8 (e_4 (e_2 ⟨rfl,rfl,{ H with h1:=fun _=>rfl }⟩))))))
     ·obtain rfl:=H.h1 (by simp[hi]);refine wpOp_hidden rfl fun K hK=>?_;go_wp2_with (go_at_call 57;refine (HIT.out _).mono ?_;rintro e w9 ⟨rfl,hw9⟩;have hw8:=hw9.symm;clear hw9;subst hw8;refine Hid.out ?_);refine hid ?_;go_wp2;refine OnlyN.mk (hK.out _ _ (e_8 (e_8 (e_8 (e_4 (e_2 ⟨rfl,rfl,{ H with h2:=fun _=>rfl }⟩))))))
     ·obtain rfl:=H.h2 (by simp[hi]);have hle:¬ 9223372036854775807 < 7+ds.length:=by have:=HLN.out;omega
      refine wpOp_hidden rfl fun K hK=>?_;go_wp2;refine OnlyN.mk (hK.out _ _ (e_8 (e_8 (e_8 (e_4 (e_2 ⟨rfl,rfl,{ H with h3:=fun _=>by rw[E3.out,← bytes_app] }⟩))))))
     ·obtain rfl:=H.h3 (by simp[hi]);have hle:¬ 9223372036854775807 < L3.length+6:=by have:=HLN.out;omega
      refine wpOp_hidden rfl fun K hK=>?_;go_wp2;refine OnlyN.mk (hK.out _ _ (e_8 (e_8 (e_8 (e_4 (e_2 ⟨rfl,rfl,{ H with h4:=fun _=>by rw[E4.out,← bytes_app] }⟩))))))
     ·refine wpOp_hidden rfl fun K hK=>?_;go_wp2;refine OnlyN.mk (hK.out _ _ (e_8 (e_8 (e_8 (e_4 (e_2 ⟨rfl,rfl,{ H with h5:=fun _=>rfl }⟩))))))
     ·obtain rfl:=H.h4 (by simp[hi]);obtain rfl:=H.h5 (by simp[hi]);have hle:¬ 9223372036854775807 < L4.length+nm.length:=by have:=HLN.out;omega
      refine wpOp_hidden rfl fun K hK=>?_;go_wp2;refine OnlyN.mk (hK.out _ _ (e_8 (e_8 (e_8 (e_4 (e_2 ⟨rfl,rfl,{ H with h6:=fun _=>by rw[E6.out,← bytes_app] }⟩))))))
     ·obtain rfl:=H.h6 (by simp[hi]);have hle:¬ 9223372036854775807 < L6.length+10:=by have:=HLN.out;omega
      refine wpOp_hidden rfl fun K hK=>?_;go_wp2;refine OnlyN.mk (hK.out _ _ (e_8 (e_8 (e_8 (e_4 (e_2 ⟨rfl,rfl,{ H with h7:=fun _=>by rw[E7.out,← bytes_app] }⟩))))))
     ·refine wpOp_hidden rfl fun K hK=>?_;go_wp2;refine OnlyN.mk (hK.out _ _ (e_8 (e_8 (e_8 (e_4 (e_2 ⟨rfl,rfl,{ H with h8:=fun _=>rfl }⟩))))))
     ·obtain rfl:=H.h8 (by simp[hi]);have cc:=(HPA.out.below H.below HPB.out).cell_ 1 (.int .i64 sym) rfl;refine wpOp_hidden rfl fun K hK=>?_;go_wp2;refine OnlyN.mk (hK.out _ _ (e_8 (e_8 (e_8 (e_4 (e_2 ⟨rfl,rfl,{ H with h9:=fun _=>rfl }⟩))))))
     ·obtain rfl:=H.h9 (by simp[hi]);have s0:0≤sym:=HST.out.2.2.1;have s1:sym < 4:=HST.out.2.2.2;refine wpOp_hidden rfl fun K hK=>?_;go_wp2;refine OnlyN.mk (hK.out _ _ (e_8 (e_8 (e_8 (e_4 (e_2 ⟨rfl,rfl,{ H with h10:=fun _=>rfl }⟩))))))
     ·obtain rfl:=H.h10 (by simp[hi]);have cc:=(H.below.cell (p:=⟨0,sym.toNat,none⟩) HGB.out).trans HSC.out;refine wpOp_hidden rfl fun K hK=>?_;go_wp2;refine OnlyN.mk (hK.out _ _ (e_8 (e_8 (e_8 (e_4 (e_2 ⟨rfl,rfl,{ H with h11:=fun _=>rfl }⟩))))))
     ·obtain rfl:=H.h7 (by simp[hi]);obtain rfl:=H.h11 (by simp[hi]);have hle:¬ 9223372036854775807 < L7.length+sy.length:=by have:=HLN.out;omega
      refine wpOp_hidden rfl fun K hK=>?_;go_wp2;refine OnlyN.mk (hK.out _ _ (e_8 (e_8 (e_8 (e_4 (e_2 ⟨rfl,rfl,{ H with h12:=fun _=>by rw[E12.out,← bytes_app] }⟩))))))
     ·obtain rfl:=H.h12 (by simp[hi]);have hle:¬ 9223372036854775807 < L12.length+1:=by have:=HLN.out;omega
      refine wpOp_hidden rfl fun K hK=>?_;go_wp2;refine OnlyN.mk (hK.out _ _ (e_8 (e_8 (e_8 (e_4 (e_2 ⟨rfl,rfl,{ H with h13:=fun _=>by rw[E13.out,← bytes_app] }⟩))))))
     ·obtain rfl:=H.h13 (by simp[hi]);have HW9:=hid (wr_any B [] L13 w' (H.bld (by simp[hi])) (by have:=HLN.out;simp;omega) (by have:=H.below.size;have:=HSZ.out;omega));have HH:=hid H;clear H;refine wpOp_hidden rfl fun K hK=>?_;go_wp2_with (go_at_call 56;refine HW9.out.mono ?_;rintro e w9 ⟨⟨vv,rfl⟩,h1,h2,-⟩;refine Hid.out ?_);refine hid ?_;have HBB:=hid h1;have HBL:=hid (HH.out.below.trans h2);clear h1 h2;go_wp2;refine OnlyN.mk (hK.out _ _ (e_8 (e_8 (e_8 (e_4 (e_2 ⟨rfl,rfl,⟨HBL.out,(fun h=>by cases h),HH.out.h0,HH.out.h1,HH.out.h2,HH.out.h3,HH.out.h4,HH.out.h5,HH.out.h6,HH.out.h7,HH.out.h8,HH.out.h9,HH.out.h10,HH.out.h11,HH.out.h12,HH.out.h13,fun _=>HBB.out⟩⟩))))))
    ·rintro listed act w' hr ⟨b0,b1,b2,b3,b4,b5,b6,b7,b8,b9,b10,b11,b12,b13,b14,v34,v35,v36,v37,v38,v39,v40,v41,v42,v43,v44,v45,v46,v47,v48,rfl,rfl,H⟩;have hn:=List.eq_nil_iff_forall_not_mem.1 hr;have r0:=hn 0;simp[mem_ready,Region.binds] at r0;subst r0;have r1:=hn 1;simp[mem_ready,Region.binds] at r1;subst r1;have r2:=hn 2;simp[mem_ready,Region.binds] at r2;subst r2;have r3:=hn 3;simp[mem_ready,Region.binds] at r3;subst r3;have r4:=hn 4;simp[mem_ready,Region.binds] at r4;subst r4;have r5:=hn 5;simp[mem_ready,Region.binds] at r5;subst r5;have r6:=hn 6;simp[mem_ready,Region.binds] at r6;subst r6;have r7:=hn 7;simp[mem_ready,Region.binds] at r7;subst r7;have r8:=hn 8;simp[mem_ready,Region.binds] at r8;subst r8;have r9:=hn 9;simp[mem_ready,Region.binds] at r9;subst r9;have r10:=hn 10;simp[mem_ready,Region.binds] at r10;subst r10;have r11:=hn 11;simp[mem_ready,Region.binds] at r11;subst r11;have r12:=hn 12;simp[mem_ready,Region.binds] at r12;subst r12;have r13:=hn 13;simp[mem_ready,Region.binds] at r13;subst r13;have r14:=hn 14;simp[mem_ready,Region.binds] at r14;subst r14;have HB5:=hid (H.h14 rfl);have HBW:=hid H.below;clear H hr hn;generalize w'=w5 at *;have HVL:=hid (varsTo_len HRT.out HFW.out.2.2.1);have HRL:=hid (rowsTo_len HRT.out (by rw[HTL.out.2.2.2.2,List.length_map];exact HFW.out.2.1));have HL13:Hid (L13.length≤40):=hid HLN.out.2.2.2.2.2.2.2.2;have HVS:Hid (TL.vars.length=vs.length∧∀ k (h:k < vs.length) (h':k < TL.vars.length),TL.vars[k]=(vs[k]'h).zs):=hid (by rw[HTL.out.2.2.2.1];exact⟨List.length_map _,fun k h h'=>List.getElem_map _⟩);have HRS:Hid (TL.rows.length=rs.length∧∀ k (h:k < rs.length) (h':k < TL.rows.length),TL.rows[k]=((rs[k]'h).zs,(rs[k]'h).out)):=hid (by rw[HTL.out.2.2.2.2];exact⟨List.length_map _,fun k h h'=>List.getElem_map _⟩);have x3:=(HTB.out w5 HBW.out).2.cell_ 3 (.slice vA vs.length vc) rfl;go_wp2;clear x3;go_loopw [52] (fun iv wr=>∃ v:Nat,v≤vs.length∧iv=.int .i64 v∧Hid (BD B (L13 ++ varsT11 0 (TL.vars.take v)) wr)∧Hid (Below B w3 wr)) (fun iv _=>vs.length - (intOf iv).toNat)
     case atStart=>exact⟨0,Nat.zero_le _,rfl,hid (by rw[List.take_zero];unfold varsT11;rw[List.append_nil];exact HB5.out),HBW⟩
     case round=>
      obtain⟨v,hv,rfl,HBv,HEv⟩:=hrel;by_cases hlt:v < vs.length
      ·skip
       have hv40:v < 50:=by have:=HFW.out.1;omega
       have hlt':v < TL.vars.length:=by rw[HVS.out.1];exact hlt
       have hok:=(rightTab_parts HRT.out).2.2.2.2.2.1 _ (List.getElem_mem hlt');have hln:=HFW.out.2.2.1 _ (List.getElem_mem hlt');have hst8:=(rightTab_parts HRT.out).1.2;have htk:=varsT_take hlt';rw[HVS.out.2 v hlt hlt'] at hok hln htk;obtain⟨b,o,e1,-,k0,kz⟩:=(HTB.out wr HEv.out).1.vars.at_ hlt;subst e1;obtain⟨vh,hvh⟩:∃ h,h=vs[v]'hlt:=⟨_,rfl⟩
       have HKF:Hid (∀ W,Below B w3 W→Ints W vh.A vh.zs):=hid (fun W hW=>by
        obtain⟨b',o',-,-,-,kz'⟩:=(HTB.out W hW).1.vars.at_ hlt;rw[hvh];exact kz')
       rw[← hvh] at k0 hok hln htk;clear kz hvh;obtain⟨zA,zc,zs⟩:=vh;dsimp only at k0 hok hln htk HKF;obtain⟨Lv,hLv⟩:∃ l,l=L13 ++ varsT11 0 (TL.vars.take v):=⟨_,rfl⟩
       have hLl:Lv.length≤2760:=by rw[hLv,List.length_append];have:=HVL.out v;have:=HL13.out;omega
       rw[← hLv] at HBv;have HTK:Hid (L13 ++ varsT11 0 (TL.vars.take (v+1))=Lv ++ vpre v ++ zs.flatMap stT ++ [10]):=hid (by rw[htk,hLv,varT_eq];simp only[List.append_assoc]);have HIV:=hid (itoaK_any v (by omega));have HDL:Hid ((Lib.decDigits v).length≤2):=hid (d11_len (k:=1) v (by omega));have HSL:Hid (∀ k,((zs.take k).flatMap stT).length≤60):=hid (statesTo_len hst8 hok hln);have HSR:=hid (var_els hst8 hok);have HLL:=hid hLl;have HZ9:Hid (zs.length≤30):=hid hln;have HLT:=hid hlt;have hwv:=wrap_n hlt (Nat.le_trans HFW.out.1 (by decide));have HWV:=hid hwv;have HVP:Hid (vpre v=[118,97,114,32,118] ++ Lib.decDigits v):=hid rfl;obtain⟨dv,hdv⟩:∃ d,d=Lib.decDigits v:=⟨_,rfl⟩
       rw[← hdv] at HIV HDL HVP;have hle:¬ 9223372036854775807 < 5+dv.length:=by have:=HDL.out;omega
       have HW1:=hid (wr2_any B Lv [118,97,114,32,118] dv wr (.inr HBv.out) (by have:=HDL.out;simp;omega) (Nat.le_of_lt HBv.out.lt));have hltI:=lt_int hlt;clear hok hln hst8 htk hLv hLl hdv hv hwv hv40 hlt';go_wp2_with (go_at_call 57;refine (HIV.out _).mono ?_;rintro e w9 ⟨rfl,hw9⟩;have hw8:=hw9.symm;clear hw9;subst hw8;refine Hid.out ?_);refine hid ?_;go_wp2_with (go_at_call 56;refine HW1.out.mono ?_;rintro e w6 ⟨⟨vv,rfl⟩,h1,h2,h3⟩;refine Hid.out ?_);refine hid ?_;have HB6:=hid h1;have HE6:=hid (HEv.out.trans h2);rw[← HVP.out] at HB6;clear h1 h2 h3 k0 hle;clear hlt hltI;go_wp2;go_loopw [63] (fun iv wr=>∃ i:Nat,i≤zs.length∧iv=.int .i64 i∧Hid (BD B (Lv ++ vpre v ++ (zs.take i).flatMap stT) wr)∧Hid (Below B w3 wr)) (fun iv _=>zs.length - (intOf iv).toNat)
       case atStart=>exact⟨0,Nat.zero_le _,rfl,hid (by rw[List.take_zero,List.flatMap_nil,List.append_nil];exact HB6.out),HE6⟩
       case round=>
        obtain⟨i,hi,rfl,HBi,HEi⟩:=hrel;by_cases hil:i < zs.length
        ·skip
         obtain⟨b2,o2,e2,-,kc⟩:=(HKF.out wr HEi.out).at_ hil;subst e2;have hfl:=flat_take (f:=stT) hil;have hzr:=HSR.out _ (List.getElem_mem hil);obtain⟨z,hz⟩:∃ z,z=zs[i]'hil:=⟨_,rfl⟩
         rw[← hz] at kc hfl hzr;have HFL:=hid hfl;have HST2:Hid (stT z=[32] ++ Lib.decDigits z.toNat):=hid rfl;have HIZ:=hid (itoaN_any z hzr.1 (by omega));have HDZ:Hid ((Lib.decDigits z.toNat).length≤2):=hid (dec1_len hzr.1 (by omega));obtain⟨dz,hdz⟩:∃ d,d=Lib.decDigits z.toNat:=⟨_,rfl⟩
         rw[← hdz] at HIZ HDZ HST2;obtain⟨Li,hLi⟩:∃ l,l=Lv ++ vpre v ++ (zs.take i).flatMap stT:=⟨_,rfl⟩
         have hll:Li.length≤2900:=by rw[hLi,HVP.out];simp only[List.length_append,List.length_cons,List.length_nil];have:=HSL.out i;have:=HLL.out;have:=HDL.out;omega
         rw[← hLi] at HBi;have HLI:=hid hLi;have hle2:¬ 9223372036854775807 < 1+dz.length:=by have:=HDZ.out;omega
         have HW3:=hid (wr2_any B Li [32] dz wr (.inr HBi.out) (by have:=HDZ.out;simp;omega) (Nat.le_of_lt HBi.out.lt));have hiI:=lt_int hil;have hwi:=wrap_n hil (Nat.le_trans HZ9.out (by decide));have HWI:=hid hwi;have HIL:=hid hil;clear hfl hzr hz hdz hLi hll hi;go_wp2_with (go_at_call 57;refine (HIZ.out _).mono ?_;rintro e w9 ⟨rfl,hw9⟩;have hw8:=hw9.symm;clear hw9;subst hw8;refine Hid.out ?_);refine hid ?_;go_wp2_with (go_at_call 56;refine HW3.out.mono ?_;rintro e w8 ⟨⟨vv,rfl⟩,h1,h2,h3⟩;refine Hid.out ?_);refine hid ?_;have HB8:=hid h1;have HE8:=hid (HEi.out.trans h2);rw[← HST2.out,HLI.out,List.append_assoc,← HFL.out] at HB8;clear h1 h2 h3 kc hle2;go_wp2;go_roundw
         case rel=>exact⟨i+1,HIL.out,by go_num,HB8,HE8⟩
         case measure=>(try rw[HWI.out]);exact meas_t HIL.out
        ·obtain rfl:i=zs.length:=Nat.le_antisymm hi (Nat.le_of_not_lt hil);clear hi hil;rw[List.take_length] at HBi;have HW2:=hid (wr_any B (Lv ++ vpre v ++ zs.flatMap stT) [10] wr (.inr HBi.out) (by have:=HSL.out zs.length;rw[List.take_length] at this;have:=HLL.out;have:=HDL.out;rw[HVP.out];simp only[List.length_append,List.length_cons,List.length_nil];omega) (Nat.le_of_lt HBi.out.lt));go_wp2_with (go_at_call 56;refine HW2.out.mono ?_;rintro e w7 ⟨⟨vv,rfl⟩,h1,h2,h3⟩;refine Hid.out ?_);refine hid ?_;have HB7:=hid h1;have HE7:=hid (HEi.out.trans h2);rw[← HTK.out] at HB7;clear h1 h2 h3;have hwv:=HWV.out;go_wp2;go_roundw
         case rel=>exact⟨v+1,HLT.out,by go_num,HB7,HE7⟩
         case measure=>(try rw[HWV.out]);exact meas_t HLT.out
      ·obtain rfl:v=vs.length:=Nat.le_antisymm hv (Nat.le_of_not_lt hlt);clear hv hlt;obtain⟨L0,hL0⟩:∃ l,l=L13 ++ varsT11 0 TL.vars:=⟨_,rfl⟩
       rw[show TL.vars.take vs.length=TL.vars from by rw[← HVS.out.1];exact List.take_length,← hL0] at HBv;have HL0:Hid (L0.length≤2760):=hid (by have:=HVL.out TL.vars.length;rw[List.take_length] at this;rw[hL0,List.length_append];have:=HL13.out;omega);have HRES:Hid (res=L0 ++ TL.rows.flatMap rowT11):=hid (by rw[HTX3.out,HHD.out,hL0]);have x4:=(HTB.out wr HEv.out).2.cell_ 4 (.slice rA rs.length rc) rfl;clear hL0;go_wp2;clear x4;go_loopw [77] (fun iv wr=>∃ r:Nat,r≤rs.length∧iv=.int .i64 r∧Hid (BD B (L0 ++ (TL.rows.take r).flatMap rowT11) wr)∧Hid (Below B w3 wr)) (fun iv _=>rs.length - (intOf iv).toNat)
       case atStart=>exact⟨0,Nat.zero_le _,rfl,hid (by rw[List.take_zero,List.flatMap_nil,List.append_nil];exact HBv.out),HEv⟩
       case round=>
        obtain⟨r,hr,rfl,HBr,HEr⟩:=hrel;by_cases hlt:r < rs.length
        ·skip
         have hr30:r < 30:=by have:=HFW.out.2.1;omega
         have hlt':r < TL.rows.length:=by rw[HRS.out.1];exact hlt
         have hok:=(rightTab_parts HRT.out).2.2.2.2.2.2 _ (List.getElem_mem hlt');have htk:=flat_take (f:=rowT11) hlt';have hst8:=(rightTab_parts HRT.out).1.2;have hnv:=(rightTab_parts HRT.out).2.2.2.1;have hh25:=hoodB_len (rightTab_parts HRT.out).2.1;rw[HRS.out.2 r hlt hlt'] at hok htk;obtain⟨b,o,e1,-,k0,k1,-⟩:=(HTB.out wr HEr.out).1.rows.at_ hlt;subst e1;obtain⟨rh,hrh⟩:∃ h,h=rs[r]'hlt:=⟨_,rfl⟩
         have HKF:Hid (∀ W,Below B w3 W→Ints W rh.A rh.zs):=hid (fun W hW=>by
          obtain⟨b',o',-,-,-,-,kz'⟩:=(HTB.out W hW).1.rows.at_ hlt;rw[hrh];exact kz')
         rw[← hrh] at k0 k1 hok htk;clear hrh;obtain⟨zA,zc,zs,out⟩:=rh;dsimp only at k0 k1 hok htk HKF;obtain⟨R,hRe⟩:∃ R,R=wr.heap.size:=⟨_,rfl⟩
         obtain⟨wb,hwb⟩:∃ W,W=wr.alloc (.cells #[.slice zA zs.length zc,.int .i64 out] 48):=⟨_,rfl⟩
         have hbk:Blk wb R 48 #[.slice zA zs.length zc,.int .i64 out]:=by rw[hwb,hRe];exact Blk.new _ _ _
         have hbb:Below wr.heap.size wr wb:=by rw[hwb];exact below_new _ _
         have HBb:=hid (HBr.out.ext hbb);have HEb:=hid (HEr.out.trans (hbb.mono (Nat.le_of_lt HBr.out.lt)));have HRB:Hid (R≠B):=hid (by rw[hRe];exact Nat.ne_of_gt HBr.out.lt);have HBK:=hid hbk;have HWb:=hid hwb;have HRe:=hid hRe;obtain⟨he1,he2,he3⟩:=row_els hnv hst8 hok;have HEL:Hid (∀ e ∈ zs,-100≤e∧e < 100∧(elT e).length≤3):=hid he1;have HOU:Hid (-100≤out∧out < 100∧(elT out).length≤3):=hid he2;have HIL:=hid (insTo_len hnv hst8 hh25.2 hok);have HZL:Hid (zs.length≤25):=hid (Nat.le_trans (Nat.le_of_eq he3) hh25.2);obtain⟨Lr,hLr⟩:∃ l,l=L0 ++ (TL.rows.take r).flatMap rowT11:=⟨_,rfl⟩
         have HLr:Hid (Lr.length≤6000):=hid (by rw[hLr,List.length_append];have:=HRL.out r;have:=HL0.out;omega);have HTK:Hid (L0 ++ (TL.rows.take (r+1)).flatMap rowT11=Lr ++ zs.flatMap enT ++ (([45,62,32] ++ elT out) ++ [10])):=hid (by rw[htk,← List.append_assoc,← hLr,rowT_eq,← List.append_assoc]);rw[← hLr] at HBb HBr;have HLT:=hid hlt;have hwr:=wrap_n hlt (Nat.le_trans HFW.out.2.1 (by decide));have HWR:=hid hwr;have hltI:=lt_int hlt;clear hok htk hst8 hnv hh25 hwb hbk hbb hRe he1 he2 he3 hLr hr30 hlt' hr hwr;go_upto_region 29 with fail
         rw[← HWb.out,← HRe.out];clear k0 k1;have x0:=HBK.out.cell_ 0 (.slice zA zs.length zc) rfl;go_wp2;clear x0 hlt hltI;go_loopw [84] (fun iv wr=>∃ i:Nat,i≤zs.length∧iv=.int .i64 i∧Hid (BD B (Lr ++ (zs.take i).flatMap enT) wr)∧Hid (Below B w3 wr)∧Hid (Blk wr R 48 #[.slice zA zs.length zc,.int .i64 out])) (fun iv _=>zs.length - (intOf iv).toNat)
         case atStart=>exact⟨0,Nat.zero_le _,rfl,hid (by rw[List.take_zero,List.flatMap_nil,List.append_nil];exact HBb.out),HEb,HBK⟩
         case round=>
          obtain⟨i,hi,rfl,HBi,HEi,HKi⟩:=hrel;by_cases hil:i < zs.length
          ·obtain⟨b2,o2,e2,-,kc⟩:=(HKF.out wr HEi.out).at_ hil;subst e2;have hfl:=flat_take (f:=enT) hil;have hzr:=HEL.out _ (List.getElem_mem hil);obtain⟨z,hz⟩:∃ z,z=zs[i]'hil:=⟨_,rfl⟩
           rw[← hz] at kc hfl hzr;have HFL:=hid hfl;have HEN:Hid (enT z=elT z ++ [32]):=hid rfl;have HCL:=hid (fun W=>elem_any z hzr.1 hzr.2.1 W);have hzl:=hzr.2.2;obtain⟨dz,hdz⟩:∃ d,d=elT z:=⟨_,rfl⟩
           rw[← hdz] at HCL HEN hzl;obtain⟨Li,hLi⟩:∃ l,l=Lr ++ (zs.take i).flatMap enT:=⟨_,rfl⟩
           have hll:Li.length≤6100:=by rw[hLi];exact len2 (HLr.out) (HIL.out i) (by decide)
           rw[← hLi] at HBi;have HLI:=hid hLi;have hle2:¬ 9223372036854775807 < dz.length+1:=not_big (by omega);have HW3:=hid (wr2_any B Li dz [32] wr (.inr HBi.out) (by simp;omega) (Nat.le_of_lt HBi.out.lt));have hiI:=lt_int hil;have hwi:=wrap_n hil (Nat.le_trans HZL.out (by decide));have HWI:=hid hwi;have HIL2:=hid hil;clear hfl hzr hzl hz hdz hLi hll hi;go_wp2_with (go_at_call 58;refine (HCL.out _).mono ?_;rintro e w9 ⟨rfl,hw9⟩;have hw8:=hw9.symm;clear hw9;subst hw8;refine Hid.out ?_);refine hid ?_;go_wp2_with (go_at_call 56;refine HW3.out.mono ?_;rintro e w8 ⟨⟨vv,rfl⟩,h1,h2,h3⟩;refine Hid.out ?_);refine hid ?_;have HB8:=hid h1;have HE8:=hid (HEi.out.trans h2);have HK8:=hid (h3 R _ _ (by decide) HRB.out HKi.out);rw[← HEN.out,HLI.out,List.append_assoc,← HFL.out] at HB8;clear h1 h2 h3 kc hle2;go_wp2;go_roundw
           case rel=>exact⟨i+1,HIL2.out,by go_num,HB8,HE8,HK8⟩
           case measure=>(try rw[HWI.out]);exact meas_t HIL2.out
          ·obtain rfl:i=zs.length:=Nat.le_antisymm hi (Nat.le_of_not_lt hil);clear hi hil;rw[List.take_length] at HBi;have HCL:=hid (fun W=>elem_any out HOU.out.1 HOU.out.2.1 W);have hol:=HOU.out.2.2;obtain⟨dz,hdz⟩:∃ d,d=elT out:=⟨_,rfl⟩
           rw[← hdz] at HCL HTK hol;have hle2:¬ 9223372036854775807 < 3+dz.length:=by omega
           have hle3:¬ 9223372036854775807 < 3+dz.length+1:=by omega
           have HW3:=hid (wr3_any B (Lr ++ zs.flatMap enT) [45,62,32] dz [10] wr (.inr HBi.out) (len4 HLr.out (by have:=HIL.out zs.length;rwa [List.take_length] at this) hol) (Nat.le_of_lt HBi.out.lt));have x1:=HKi.out.cell_ 1 (.int .i64 out) rfl;have hwr:=HWR.out;clear hdz hol;go_wp2_with (go_at_call 58;refine (HCL.out _).mono ?_;rintro e w9 ⟨rfl,hw9⟩;have hw8:=hw9.symm;clear hw9;subst hw8;refine Hid.out ?_);refine hid ?_;go_wp2_with (go_at_call 56;refine HW3.out.mono ?_;rintro e w8 ⟨⟨vv,rfl⟩,h1,h2,h3⟩;refine Hid.out ?_);refine hid ?_;have HB8:=hid h1;have HE8:=hid (HEi.out.trans h2);rw[← HTK.out] at HB8;clear h1 h2 h3 x1 hle2 hle3;go_wp2;go_roundw
           case rel=>exact⟨r+1,HLT.out,by go_num,HB8,HE8⟩
           case measure=>(try rw[HWR.out]);exact meas_t HLT.out
        ·obtain rfl:r=rs.length:=Nat.le_antisymm hr (Nat.le_of_not_lt hlt);clear hr hlt;rw[show TL.rows.take rs.length=TL.rows from by rw[← HRS.out.1];exact List.take_length,← HRES.out] at HBr;have HST:=hid (Tryz.Builder_String_any B B res wr (.inr HBr.out) (Nat.le_of_lt HBr.out.lt));go_wp2_with (go_at_call 59;refine HST.out.mono ?_;rintro e w9 ⟨rfl,hb9⟩;refine Hid.out ?_);refine hid ?_;have HB9:=hid (HBA.out.trans ((HEr.out.trans hb9).mono HWB.out));clear hb9;go_wp2;go_ret;exact⟨rfl,HB9.out⟩
end Go.Proofs.YtcmbdhopmncmnaaGreatDoor
namespace Go.Proofs.YtcmbdhopmncmnaaGreatDoor
open Lib(hid)
open Go.RowKit Go.Maps
set_option maxRecDepth 100000
set_option linter.unusedVariables false
set_option linter.unusedSimpArgs false
def set5 (w:World)(g:Nat)(a b c d e:Value):World:=((((w.setCell ⟨g,0,none⟩ a).setCell ⟨g,1,none⟩ b).setCell ⟨g,2,none⟩ c).setCell ⟨g,3,none⟩ d).setCell ⟨g,4,none⟩ e
theorem set5_blk {w:World}{g:Nat}{T:TypeId}{x0 x1 x2 x3 x4:Value}(h:Blk w g T #[x0,x1,x2,x3,x4])(a b c d e:Value):Blk (set5 w g a b c d e) g T #[a,b,c,d,e]:=
 ((((h.set_ 0 a).set_ 1 b).set_ 2 c).set_ 3 d).set_ 4 e
theorem set5_kept (w:World)(g:Nat)(a b c d e:Value):Kept (fun k=>k=g) w (set5 w g a b c d e):=
 (((((Kept.refl (fun k=>k=g) w).setCell (p:=⟨g,0,none⟩) (.inl rfl) a).setCell (p:=⟨g,1,none⟩) (.inl rfl) b).setCell (p:=⟨g,2,none⟩) (.inl rfl) c).setCell (p:=⟨g,3,none⟩) (.inl rfl) d).setCell (p:=⟨g,4,none⟩) (.inl rfl) e
theorem set5_below {base:Nat}{w0 w:World}(h:Below base w0 w){g:Nat}(hg:base≤g)(a b c d e:Value):Below base w0 (set5 w g a b c d e):=
 ((((h.setCell (p:=⟨g,0,none⟩) hg a).setCell (p:=⟨g,1,none⟩) hg b).setCell (p:=⟨g,2,none⟩) hg c).setCell (p:=⟨g,3,none⟩) hg d).setCell (p:=⟨g,4,none⟩) hg e
theorem placeI_none {w:Wd}{k:Nat}{l:List Wd}(h:placeW w k l=none):placeI w k l = -1:=by unfold placeI;rw[h]
theorem placeI_some {w:Wd}{k i:Nat}{l:List Wd}(h:placeW w k l=some i):placeI w k l=(i:Int):=by unfold placeI;rw[h]
set_option maxHeartbeats 1000000 in
theorem rhoods_any (w:World):Calls Tryz.prog 61 #[] w fun e w'=>∃ g,e=.returned (.slice (some ⟨g,0,none⟩) 4 4)∧w.heap.size≤g∧Sts w' (some ⟨g,0,none⟩) hoodsB∧Below w.heap.size w w':=by
 have HS:=hid (sts_lit w hoodsB);go_enter Tryz.func61,Tryz.ntmps61;go_wp2;go_ret;exact⟨_,rfl,Nat.le_refl _,HS.out,below_new _ _⟩
set_option maxHeartbeats 1000000 in
theorem rsymsl_any (w:World):Calls Tryz.prog 63 #[] w fun e w'=>∃ g,e=.returned (.slice (some ⟨g,0,none⟩) 4 4)∧w.heap.size≤g∧Sts w' (some ⟨g,0,none⟩) symsB∧Below w.heap.size w w':=by
 have HS:=hid (sts_lit w symsB);go_enter Tryz.func63,Tryz.ntmps63;go_wp2;go_ret;exact⟨_,rfl,Nat.le_refl _,HS.out,below_new _ _⟩
set_option maxHeartbeats 1000000 in
theorem rline_new (w:World):Calls Tryz.prog 103 #[] w (RetPts lineL w):=by
 have h1:OwnP 43 (w.alloc (.cells #[.int .i64 (-1),.int .i64 0,.int .i64 0,.int .i64 0,.int .i64 1,.int .i64 0] 43)) w.heap.size (.slice (some ⟨w.heap.size,0,none⟩) 3 3) lineL:=
  World.ownsRow_lit (base:=w.heap.size) (e:=43) (size:=2) w #[.int .i64 (-1),.int .i64 0,.int .i64 0,.int .i64 0,.int .i64 1,.int .i64 0] 3 (Nat.le_refl _) (by decide) rfl
 obtain⟨A,c,e,hp,hn⟩:=h1.pts;injection e with e e2 e3
 subst e;clear e2 e3;have HP:=hid (And.intro hp hn);clear hp hn h1;go_enter Tryz.func103,Tryz.ntmps103;go_wp2;go_ret;exact⟨_,_,rfl,HP.out.1,HP.out.2,below_new _ _⟩
theorem hoods_lists:mooreL 1=mooreP∧neumL 1=neumP∧hexL=hexP:=⟨moore_list,neum_list,hex_list⟩
set_option maxHeartbeats 4000000 in
theorem rhoodof_any (k:Nat)(hk:k < 4)(w:World):Calls Tryz.prog 60 #[.int .i64 (k:Int)] w (RetPts (hoodsP.getD k []) w):=by
 obtain rfl | rfl | rfl | rfl:k=0∨k=1∨k=2∨k=3:=by omega
 ·have HC:Hid (Calls Tryz.prog 66 #[.int .i64 1] w (RetPts (hoodsP.getD 0 []) w)):=hid (by have:=rmoore_any 1 (by omega) w;rw[hoods_lists.1] at this;exact this);clear hk;go_enter Tryz.func60,Tryz.ntmps60;go_wp2_with (go_at_call 66;refine HC.out.mono ?_;rintro e w' ⟨A,c,rfl,hp,hn,hb⟩;refine Hid.out ?_);refine hid ?_;have HP:=hid (And.intro hp (And.intro hn hb));clear hp hn hb HC;go_wp2;go_ret;exact⟨_,_,rfl,HP.out.1,HP.out.2.1,HP.out.2.2⟩
 ·have HC:Hid (Calls Tryz.prog 26 #[.int .i64 1] w (RetPts (hoodsP.getD 1 []) w)):=hid (by have:=rneum_any 1 (by omega) w;rw[hoods_lists.2.1] at this;exact this);clear hk;go_enter Tryz.func60,Tryz.ntmps60;go_wp2_with (go_at_call 26;refine HC.out.mono ?_;rintro e w' ⟨A,c,rfl,hp,hn,hb⟩;refine Hid.out ?_);refine hid ?_;have HP:=hid (And.intro hp (And.intro hn hb));clear hp hn hb HC;go_wp2;go_ret;exact⟨_,_,rfl,HP.out.1,HP.out.2.1,HP.out.2.2⟩
 ·have HC:Hid (Calls Tryz.prog 102 #[] w (RetPts (hoodsP.getD 2 []) w)):=hid (by have:=rhex_any w;rw[hoods_lists.2.2] at this;exact this);clear hk;go_enter Tryz.func60,Tryz.ntmps60;go_wp2_with (go_at_call 102;refine HC.out.mono ?_;rintro e w' ⟨A,c,rfl,hp,hn,hb⟩;refine Hid.out ?_);refine hid ?_;have HP:=hid (And.intro hp (And.intro hn hb));clear hp hn hb HC;go_wp2;go_ret;exact⟨_,_,rfl,HP.out.1,HP.out.2.1,HP.out.2.2⟩
 ·have HC:Hid (Calls Tryz.prog 103 #[] w (RetPts (hoodsP.getD 3 []) w)):=hid (rline_new w);clear hk;go_enter Tryz.func60,Tryz.ntmps60;go_wp2_with (go_at_call 103;refine HC.out.mono ?_;rintro e w' ⟨A,c,rfl,hp,hn,hb⟩;refine Hid.out ?_);refine hid ?_;have HP:=hid (And.intro hp (And.intro hn hb));clear hp hn hb HC;go_wp2;go_ret;exact⟨_,_,rfl,HP.out.1,HP.out.2.1,HP.out.2.2⟩
structure Env (w:World):Prop where
 cell:GCell w
 mat:GMat w
 sym:SymG w
 len:2 < w.heap.size
theorem Env.ext {w w':World}(h:Env w)(hb:Below w.heap.size w w'):Env w':=⟨h.cell.ext hb,h.mat.ext hb,h.sym.ext hb,Nat.lt_of_lt_of_le h.len hb.size⟩
theorem Blk.ext {w w':World}{g:Nat}{t:TypeId}{cs:Array Value}(h:Blk w g t cs)(hb:Below w.heap.size w w'):Blk w' g t cs:=h.below hb h.lt
theorem size_new11 (w:World)(o:Obj):(w.alloc o).heap.size=w.heap.size+1:=by simp
theorem lit11a (w:World)(base:Nat)(hb:base≤w.heap.size)(a b c:Int):OwnIA (w.alloc (.cells #[.int .i64 a,.int .i64 b,.int .i64 c] 3)) base (.slice (some ⟨w.heap.size,0,none⟩) 3 3) [a,b,c]:=
 World.ownsRow_lit (base:=base) (e:=3) (size:=1) w #[.int .i64 a,.int .i64 b,.int .i64 c] 3 hb (by decide) rfl
theorem lit11b (w:World)(base:Nat)(hb:base≤w.heap.size)(a b c d e:Int):OwnIA (w.alloc (.cells #[.int .i64 a,.int .i64 b,.int .i64 c,.int .i64 d,.int .i64 e] 3)) base (.slice (some ⟨w.heap.size,0,none⟩) 5 5) [a,b,c,d,e]:=
 World.ownsRow_lit (base:=base) (e:=3) (size:=1) w #[.int .i64 a,.int .i64 b,.int .i64 c,.int .i64 d,.int .i64 e] 5 hb (by decide) rfl
def TabQ (w:World)(hA vA rA:Option Addr)(k:TabL):Prop:=∃ t,TabR w hA vA rA t∧t.tab=k
def tabK (hA:Option Addr)(hc:Nat)(vA:Option Addr)(vc:Nat)(rA:Option Addr)(rc:Nat)(k:TabL):Value:=
 .agg #[.int .i64 k.st,.int .i64 k.sym,.slice hA k.hood.length hc,.slice vA k.vars.length vc,.slice rA k.rows.length rc]
theorem TabQ.ext {w w':World}{hA vA rA:Option Addr}{k:TabL}(h:TabQ w hA vA rA k)(hb:Below w.heap.size w w'):TabQ w' hA vA rA k:=by
 obtain⟨t,h1,h2⟩:=h;exact⟨t,h1.ext hb,h2⟩
theorem tabV_K (hA:Option Addr)(hc:Nat)(vA:Option Addr)(vc:Nat)(rA:Option Addr)(rc:Nat){t:TabH}{k:TabL}(h:t.tab=k):tabV hA hc vA vc rA rc t=tabK hA hc vA vc rA rc k:=by
 subst h;unfold tabV tabK TabH.tab;simp only[List.length_map]
structure TvK (w:World)(p:Nat)(hA:Option Addr)(hc:Nat)(vA:Option Addr)(vc:Nat)(rA:Option Addr)(rc:Nat)(k:TabL):Prop where
 blk:Blk w p 26 #[.int .i64 k.st,.int .i64 k.sym,.slice hA k.hood.length hc,.slice vA k.vars.length vc,.slice rA k.rows.length rc]
 tb:TabQ w hA vA rA k
section
variable {w w' : World} {p : Nat} {hA : Option Addr} {hc : Nat} {vA : Option Addr} {vc : Nat} {rA : Option Addr} {rc : Nat} {k : TabL}
theorem TvK.ext (h:TvK w p hA hc vA vc rA rc k)(hb:Below w.heap.size w w'):TvK w' p hA hc vA vc rA rc k:=⟨h.blk.ext hb,h.tb.ext hb⟩
theorem TvK.cells (h:TvK w p hA hc vA vc rA rc k):w.cell? ⟨p,0,none⟩=some (.int .i64 k.st)∧w.cell? ⟨p,1,none⟩=some (.int .i64 k.sym)∧w.cell? ⟨p,2,none⟩=some (.slice hA k.hood.length hc)∧w.cell? ⟨p,3,none⟩=some (.slice vA k.vars.length vc)∧w.cell? ⟨p,4,none⟩=some (.slice rA k.rows.length rc):=
 ⟨h.blk.cell_ 0 _ rfl,h.blk.cell_ 1 _ rfl,h.blk.cell_ 2 _ rfl,h.blk.cell_ 3 _ rfl,h.blk.cell_ 4 _ rfl⟩
theorem TvK.new (h:TabQ w hA vA rA k):TvK (w.alloc (.cells #[.int .i64 k.st,.int .i64 k.sym,.slice hA k.hood.length hc,.slice vA k.vars.length vc,.slice rA k.rows.length rc] 26)) w.heap.size hA hc vA vc rA rc k:=⟨Blk.new _ _ _,h.ext (below_new _ _)⟩
theorem next_q (h:TabQ w hA vA rA k)(hG:GMat w){iA:Option Addr}{inn:List Int}(hi:Ints w iA inn)(ic:Nat):Calls Tryz.prog 16 #[tabK hA hc vA vc rA rc k,.slice iA inn.length ic] w fun en w'=>en=.returned (.tuple #[.int .i64 (nextT k inn).1,.int .i64 (nextT k inn).2])∧Below w.heap.size w w':=by
 obtain⟨t,h1,rfl⟩:=h;have:=next_any hA hc vA vc rA rc t iA ic inn w h1 hG hi (.inr permOK);rw[tabV_K hA hc vA vc rA rc rfl] at this;exact this
theorem match_q (h:TabQ w hA vA rA k)(hG:GMat w)(row:Int){iA:Option Addr}{inn:List Int}(hi:Ints w iA inn)(ic:Nat):Calls Tryz.prog 14 #[tabK hA hc vA vc rA rc k,.int .i64 row,.slice iA inn.length ic] w fun en w'=>en=.returned (.tuple #[.int .i64 (matchT k row inn).1,.bool (matchT k row inn).2])∧Below w.heap.size w w':=by
 obtain⟨t,h1,rfl⟩:=h;have:=match_any hA hc vA vc rA rc t row iA ic inn w h1 hG hi (.inr permOK);rw[tabV_K hA hc vA vc rA rc rfl] at this;exact this
theorem right_q (h:TabQ w hA vA rA k)(hG:GMat w):Calls Tryz.prog 10 #[tabK hA hc vA vc rA rc k] w fun en w'=>en=.returned (.bool (rightTab k))∧Below w.heap.size w w':=by
 obtain⟨t,h1,rfl⟩:=h;have:=rright15_any hA hc vA vc rA rc t w h1 hG;rw[tabV_K hA hc vA vc rA rc rfl] at this;exact this
theorem same_q (h:TabQ w hA vA rA k):Calls Tryz.prog 12 #[tabK hA hc vA vc rA rc k,tabK hA hc vA vc rA rc k] w fun en w'=>en=.returned (.bool true)∧Below w.heap.size w w':=by
 obtain⟨t,h1,rfl⟩:=h;have:=same11_any t t hA vA rA hc vc rc hA vA rA hc vc rc w h1 h1;rw[tabV_K hA hc vA vc rA rc rfl,(sameTB_iff _ _).2 rfl] at this;exact this
theorem text_q (h:TabQ w hA vA rA k)(hG:GMat w)(hS:SymG w)(hf:few11 k=true):Calls Tryz.prog 20 #[tabK hA hc vA vc rA rc k] w fun en w'=>en=.returned (.string ⟨(text11 k).toArray⟩)∧Below w.heap.size w w':=by
 obtain⟨t,h1,rfl⟩:=h;have:=text_any hA hc vA vc rA rc t w h1 hG hS hf;rw[tabV_K hA hc vA vc rA rc rfl] at this;exact this
theorem parse_q (l:List UInt8)(h:Env w)(hs:l.length≤65536):Calls Tryz.prog 18 #[.string ⟨l.toArray⟩] w fun en w'=>∃ hA hc vA vc rA rc,en=.returned (.tuple #[tabK hA hc vA vc rA rc (parse11 l).1,.int .i64 (parse11 l).2.1,.int .i64 (parse11 l).2.2])∧TabQ w' hA vA rA (parse11 l).1∧Below w.heap.size w w':=by
 refine (parse_any ⟨l.toArray⟩ w h.cell h.mat h.sym h.len (by simpa [ByteArray.size] using hs)).mono ?_;rintro e w' ⟨hA,hc,vA,vc,rA,rc,t,e1,e2,e3,e4⟩;rw[tabV_K hA hc vA vc rA rc e3] at e1;exact⟨hA,hc,vA,vc,rA,rc,e1,⟨t,e2,e3⟩,e4⟩
end
theorem example_any (w:World):Calls Tryz.prog 25 #[] w fun e w'=>e=.returned (.string ⟨exA.toArray⟩)∧Below w.heap.size w w':=by
 have HB:Hid (Below w.heap.size w w):=hid (Below.refl _ _);go_enter Tryz.func25,Tryz.ntmps25;go_wp2;go_ret;exact⟨rfl,HB.out⟩
theorem neum11_any (w:World):Calls Tryz.prog 26 #[.int .i64 1] w fun e w'=>∃ A c,e=.returned (.slice A 5 c)∧Pts w' A neumP∧Below w.heap.size w w':=by
 have:=rneum_any 1 (by omega) w;rw[hoods_lists.2.1] at this;refine this.mono ?_;rintro e w' ⟨A,c,e1,hp,hn,hb⟩;exact⟨A,c,e1,hp,hb⟩
theorem tabQ_zero {w:World}:TabQ w none none none zero11:=⟨⟨0,0,[],[],[]⟩,⟨Pts.nil,Vrs.nil,Rws.nil⟩,rfl⟩
theorem lit_u11 (w wz:World)(A:Option Addr)(c:Nat)(hp:Pts w A neumP)(hz:wz=((w.alloc (.cells #[.int .i64 1,.int .i64 0,.int .i64 0,.int .i64 0,.int .i64 0] 3)).alloc (.cells #[.slice (some ⟨w.heap.size,0,none⟩) 5 5,.int .i64 1] 48)).alloc (.cells #[.int .i64 2,.int .i64 1,.slice A 5 c,.slice none 0 0,.slice (some ⟨w.heap.size+1,0,none⟩) 1 1] 26)) :
  Below w.heap.size w wz∧TvK wz (w.heap.size+1+1) A c none 0 (some ⟨w.heap.size+1,0,none⟩) 1 tabU:=by
 obtain⟨w1,h1⟩:∃ w1,w1=w.alloc (.cells #[.int .i64 1,.int .i64 0,.int .i64 0,.int .i64 0,.int .i64 0] 3):=⟨_,rfl⟩
 obtain⟨w3,h3⟩:∃ w3,w3=w1.alloc (.cells #[.slice (some ⟨w.heap.size,0,none⟩) 5 5,.int .i64 1] 48):=⟨_,rfl⟩
 rw[← h1,← h3] at hz;have z1:w1.heap.size=w.heap.size+1:=by rw[h1];exact size_new11 _ _
 have z3:w3.heap.size=w.heap.size+1+1:=by rw[h3,size_new11,z1]
 have b1:Below w.heap.size w w1:=by rw[h1];exact below_new _ _
 have b3:Below w1.heap.size w1 w3:=by rw[h3];exact below_new _ _
 have b4:Below w3.heap.size w3 wz:=by rw[hz];exact below_new _ _
 have b34:=b3.trans (b4.mono b3.size);have b14:=b1.trans (b34.mono b1.size);have i1:OwnIA w1 w.heap.size (.slice (some ⟨w.heap.size,0,none⟩) 5 5) [1,0,0,0,0]:=by rw[h1];exact lit11b w _ (Nat.le_refl _) 1 0 0 0 0
 have i3:w3.ownsRow w.heap.size 48 2 (.slice (some ⟨w.heap.size+1,0,none⟩) 1 1) 1 [.slice (some ⟨w.heap.size,0,none⟩) 5 5,.int .i64 1]:=by
  have:w3.ownsRow w.heap.size 48 2 (.slice (some ⟨w1.heap.size,0,none⟩) 1 1) 1 [.slice (some ⟨w.heap.size,0,none⟩) 5 5,.int .i64 1]:=by
   rw[h3];exact World.ownsRow_lit (base:=w.heap.size) (e:=48) (size:=2) w1 #[.slice (some ⟨w.heap.size,0,none⟩) 5 5,.int .i64 1] 1 (by rw[z1];omega) (by decide) rfl
  rw[z1] at this;exact this
 obtain⟨X9,c9,e9,h9,-⟩:=own_form i3;injection e9 with e9 _ _
 subst e9;have i1':=(OwnI.reads i1).ext b34;refine⟨b14,?_,⟨2,1,neumP,[],[⟨some ⟨w.heap.size,0,none⟩,5,[1,0,0,0,0],1⟩]⟩,⟨hp.ext b14,Vrs.nil,⟨(Reads.below h9.1 b4).more b4.size,h9.2,?_⟩⟩,rfl⟩
 ·rw[hz,← z3];exact Blk.new _ _ _
 ·intro x hx;rw[List.mem_singleton.1 hx];exact i1'
end Go.Proofs.YtcmbdhopmncmnaaGreatDoor
