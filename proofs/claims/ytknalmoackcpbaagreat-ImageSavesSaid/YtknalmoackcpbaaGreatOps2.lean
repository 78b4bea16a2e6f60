/- Package ops: Of, Named, Many; the reference's Name, Of, Named. -/
import Derived.Test.YtknalmoackcpbaaGreatSig8
set_option maxRecDepth 100000
set_option maxHeartbeats 3200000
set_option linter.all false
open Go Go.AW
namespace Go.Proofs.YtknalmoackcpbaaGreat
open Tryz
theorem tv (op:Int) (h:op<1∨75<op):gZ op=([],0,0):=by
 unfold gZ;repeat (rw[if_neg (by omega)])
 unfold zv;repeat (rw[if_neg (by omega)])
 unfold vg;repeat (rw[if_neg (by omega)])
 unfold qR;repeat (rw[if_neg (by omega)])
 unfold qA;repeat (rw[if_neg (by omega)])
theorem Mx:∀k:Fin 75,(gZ ((k.val:Int)+1)).1≠ []:=by decide
def uV (op:Int):Int:=if op<1∨75<op then 3 else 0
theorem Jn (l:zY):((⟨l.toArray⟩:ByteArray)=ByteArray.empty)↔l= []:=by
 constructor
 ·intro h;have:=congrArg (fun b:ByteArray=>b.data.toList) h;simpa using this
 ·rintro rfl;rfl
theorem Ed (op:Int) (σ:AS):ad prog 176 [zI op] σ (aq (.cp [fO (gZ op),zI (uV op)]) σ) No:=by
 refine ad.ob func176 ?_;refine gO aa tI tI ?_;intro id l;by_cases h:op<1∨75<op
 ·have h1:=tv op h;refine gO aa (j2 @h1 @fO.eq_1) @LU ?_;intro n ne j;have ne':=ba ne;refine gO aa (j2 @ne @ne') tI ?_;simp[uV,h];all_goals (repeat (first|exact lR _ |refine aw (by simp[l,j,ne]) ?_))
 ·have h1:(gZ op).1≠ []:=by
   have:=Mx ⟨(op-1).toNat,by omega⟩;have e:(((op-1).toNat:Nat):Int)+1=op:=by omega
   change (gZ ((((op-1).toNat:Nat):Int)+1)).1≠ []at this;rwa [e]at this
  have o:=Jn (gZ op).1;simp[h1]at o;refine gO aa @fO.eq_1 @LU ?_;intro n ne j;have ne':=ba ne;refine gO aa (j3 @h1 @ne @ne') tI ?_;simp[uV,h];all_goals (repeat (first|exact lR _ |refine aw (by simp[l,j,ne]) ?_))
theorem IM (x b:Int) (σ:AS):ad prog 255 [zI x,zI b] σ (aq (.sc (.bool (decide (0≤x)&&decide (x<b)))) σ) No:=by
 refine ad.ob func255 ?_;by_cases h:0≤x;all_goals
  exact gE aa @h tI;try simp[h]
structure dM where
 op:Int
 arg:Int
 t:Ty
def bJ (x:dM):AV:= .agg [zI x.op,zI x.arg,zI x.t.kind,zI x.t.index,zI x.t.cT,.sc (.bool x.t.ref)]
def nL (t:Ty):Bool:=decide (t.kind=0)&&(decide (t.index=0)&&(decide (t.cT=0)&& !t.ref))
def jf (x:dM) (o:Int):Bool:=
 if o=0 then nL x.t&&decide (x.arg=0)else
 if o=1 then nL x.t&&(decide (-2147483648≤x.arg)&&decide (x.arg<2147483648))else
 if o=2 then nL x.t else
 if o=3 then nL x.t&&(decide (0≤x.arg)&&decide (x.arg<12))else
 if o=4 then nL x.t&&(decide (0≤x.arg)&&decide (x.arg<7))else
 if o=5 then nL x.t&&(decide (0≤x.arg)&&decide (x.arg<160))else
 if o=6∨o=7 then nL x.t&&(decide (0≤x.arg)&&decide (x.arg<64))else
 decide (x.arg=0)&&cq x.t
theorem pg (x:dM) (o:Int) (σ:AS):ad prog 217 [bJ x,zI o] σ (aq (.sc (.bool (jf x o))) σ) No:=by
 refine ad.ob func217 ?_;have n:=fun σ=>oW x.t σ;obtain⟨op,arg,k,j,d,r⟩:=x;simp only[cB]at n;simp only[bJ];have l:gP prog 8 49 (.agg [zI k,zI j,zI d,zB r]) (.agg [zI 0,zI 0,zI 0,zB false])=some (nL ⟨k,j,d,r⟩):=by simp[nL]
 refine gO aa tI tI ?_;intro id q;cases hn:nL ⟨k,j,d,r⟩;all_goals
  rw[hn]at l
  repeat' (first
   |refine g1 ?_
   |((first|refine g2 ?_ |((with_reducible apply aj.id);first|apply aj.aL (IM _ _ _)|apply aj.aL (n _)));simp-implicitDefEqProofs [-qT,l])
   |trivial
   |(with_reducible apply j2)
   |((with_reducible first|apply aA.ret|apply aA.skip|apply aA.exit);try simp-implicitDefEqProofs [-qT])
   |((with_reducible first|apply dd.split|apply bT.split|apply fS.split)<;>(intro u;(try simp-implicitDefEqProofs only[u]);(try simp at u))<;>try simp-implicitDefEqProofs [-qT]))
  all_goals clear n l
  all_goals first
   |exact aw q (lR _)
   |(refine Bv ?_;simp_all [jf,cq,aX];done)
   |(refine Bv ?_;rw[Bool.eq_iff_iff];simp[jf, *];omega)
def jT (x:dM):Int:=if x.op<1∨75<x.op then 3 else if jf x (gZ x.op).2.1 then 0 else 17
theorem Ap (x:dM) (σ:AS):ad prog 175 [bJ x] σ (aq (zI (jT x)) σ) No:=by
 refine ad.ob func175 ?_;have j:=fun σ=>Ed x.op σ;have hf:=fun o σ=>pg x o σ;have he:jT x=if x.op<1∨75<x.op then 3 else if jf x (gZ x.op).2.1 then 0 else 17:=rfl;generalize jT x=w at he⊢;obtain⟨op,arg,k,v,d,r⟩:=x;simp only[bJ,fO,uV]at j hf he⊢;by_cases h:op<1∨75<op;all_goals
  simp only[h,if_true,if_false]at j he;refine gO aa tI tI ?_;intro id u;refine gO aa tI @j ?_;intro q ne l;have ne':=ba ne
  repeat' (first
   |refine g1 ?_
   |((first|refine g2 ?_ |((with_reducible apply aj.id);first|apply aj.aL (j _)|apply aj.aL (hf _ _)));simp-implicitDefEqProofs [ne'])
   |trivial
   |(with_reducible apply j2)
   |((with_reducible first|apply aA.ret|apply aA.skip|apply aA.exit);try simp-implicitDefEqProofs)
   |((with_reducible first|apply dd.split|apply bT.split|apply fS.split)<;>(intro n;(try simp-implicitDefEqProofs only[n]);(try simp at n))<;>try simp-implicitDefEqProofs [ne,ne']))
  all_goals clear j hf
  all_goals exact gJ tI
def om (o:Int):Int×Int:=if o=1 then(2147483647,-2147483648)else if o=2 then(9223372036854775807,-9223372036854775808)else if o=3 then(11,0)else
 if o=4 then(6,0)else if o=5 then(159,0)else if o=6∨o=7 then(63,0)else(0,0)
theorem G7 (o:Int) (σ:AS):ad prog 180 [zI o] σ (aq (.cp [zI ((om o).1),zI ((om o).2)]) σ) No:=by
 refine ad.ob func180 ?_
 repeat' (first
  |refine g1 ?_
  |((first|(with_reducible first|apply aA.fork|apply aA.region));simp-implicitDefEqProofs)
  |trivial
  |(with_reducible apply j2)
  |((with_reducible first|apply aA.ret|apply aA.skip|apply aA.exit);try simp-implicitDefEqProofs)
  |((with_reducible first|apply dd.split|apply bT.split|apply fS.split)<;>(intro j;(try simp-implicitDefEqProofs only[j]);(try simp at j))<;>try simp-implicitDefEqProofs))
 all_goals exact gJ @om.eq_1
theorem EK (o:Int) (arg:Int) (h1: -9223372036854775808≤arg) (v:arg<9223372036854775808) (t:Ty) (op:Int) (n:0≤o∧o≤8):
 jf ⟨op,arg,t⟩ o=(decide ((om o).2≤arg∧arg≤(om o).1)&&(if o=8 then cq t else nL t)):=by
 obtain⟨l,j⟩:=n;have:o=0∨o=1∨o=2∨o=3∨o=4∨o=5∨o=6∨o=7∨o=8:=by omega
 rcases this with rfl|rfl|rfl|rfl|rfl|rfl|rfl|rfl|rfl<;>cases q:nL t<;>cases u:cq t<;>rw[Bool.eq_iff_iff]<;>simp[jf,om,q,u]<;>omega
theorem uU:∀k:Fin 75,0≤(gZ ((k.val:Int)+1)).2.1∧(gZ ((k.val:Int)+1)).2.1≤8:=by decide+kernel
def rK:zY→Int→Int→zY→zY
 |[],_,_,_ => []
 |b::r,op,n,cur=>if b=32 then(if n=op then cur else rK r op (n+1) [])else rK r op n (cur++ [b])
theorem J8 (L:zY) (i j:Nat) (h:i<L.length) (hf:j≤i) (op n:Int):
 rK (L.drop i) op n ((L.take i).drop j)=if L[i]=32 then(if n=op then(L.take i).drop j else rK (L.drop (i+1)) op (n+1) ((L.take (i+1)).drop (i+1)))
  else rK (L.drop (i+1)) op n ((L.take (i+1)).drop j):=by
 rw[List.drop_eq_getElem_cons h];have o:(L.take (i+1)).drop (i+1)= []:=by simp
 have l:(L.take (i+1)).drop j=(L.take i).drop j++ [L[i]]:=by rw[List.take_succ_eq_append_getElem h,List.drop_append_of_le_length (by simp;omega)]
 rw[o,l];simp[rK]
def NM:ByteArray:=({ data:=(List.toArray (List.append (List.append (List.append [110,111,112,32,108,100,97,114,103,32,115,116,97,114,103,32,108,100,97,114,103,97,32,108,100,108,111,99,32,115,116,108,111,99,32,108,100,108,111,99,97,32,108,100,99,52,32,108,100,99,56,32,108,100] [110,117,108,108,32,100,117,112,32,112,111,112,32,97,100,100,32,115,117,98,32,109,117,108,32,100,105,118,32,114,101,109,32,97,110,100,32,111,114,32,120,111,114,32,115,104,108,32,115,104,114,32,110,101]) (List.append [103,32,110,111,116,32,97,100,100,111,118,102,32,115,117,98,111,118,102,32,109,117,108,111,118,102,32,99,111,110,118,52,32,99,111,110,118,56,32,99,111,110,118,111,118,102,52,32,99,101,113,32,99,103] [116,32,99,108,116,32,98,114,32,98,114,116,114,117,101,32,98,114,102,97,108,115,101,32,98,101,113,32,98,103,101,32,98,103,116,32,98,108,101,32,98,108,116,32,98,110,101,32,99,97,108,108,32,99])) (List.append (List.append [97,108,108,118,105,114,116,32,110,101,119,111,98,106,32,114,101,116,32,116,97,105,108,32,108,100,102,108,100,32,115,116,102,108,100,32,108,100,102,108,100,97,32,108,100,115,102,108,100,32,115,116,115,102] [108,100,32,108,100,115,102,108,100,97,32,108,100,111,98,106,32,115,116,111,98,106,32,105,110,105,116,111,98,106,32,110,101,119,97,114,114,32,108,100,108,101,110,32,108,100,101,108,101,109,32,115,116,101]) (List.append [108,101,109,32,108,100,101,108,101,109,97,32,98,111,120,32,117,110,98,111,120,32,117,110,98,111,120,97,110,121,32,99,97,115,116,99,108,97,115,115,32,105,115,105,110,115,116,32,108,100,102,116,110,32] [110,101,119,100,101,108,32,116,104,114,111,119,32,114,101,116,104,114,111,119,32,108,101,97,118,101,32,101,110,100,102,105,110,97,108,108,121,32,101,110,100,102,105,108,116,101,114,32,105,110,32,111,117,116,32])))) } :ByteArray)
theorem Tf:(({ data:=(List.toArray (List.append (List.append (List.append [110,111,112,32,108,100,97,114,103,32,115,116,97,114,103,32,108,100,97,114,103,97,32,108,100,108,111,99,32,115,116,108,111,99,32,108,100,108,111,99,97,32,108,100,99,52,32,108,100,99,56,32,108,100] [110,117,108,108,32,100,117,112,32,112,111,112,32,97,100,100,32,115,117,98,32,109,117,108,32,100,105,118,32,114,101,109,32,97,110,100,32,111,114,32,120,111,114,32,115,104,108,32,115,104,114,32,110,101]) (List.append [103,32,110,111,116,32,97,100,100,111,118,102,32,115,117,98,111,118,102,32,109,117,108,111,118,102,32,99,111,110,118,52,32,99,111,110,118,56,32,99,111,110,118,111,118,102,52,32,99,101,113,32,99,103] [116,32,99,108,116,32,98,114,32,98,114,116,114,117,101,32,98,114,102,97,108,115,101,32,98,101,113,32,98,103,101,32,98,103,116,32,98,108,101,32,98,108,116,32,98,110,101,32,99,97,108,108,32,99])) (List.append (List.append [97,108,108,118,105,114,116,32,110,101,119,111,98,106,32,114,101,116,32,116,97,105,108,32,108,100,102,108,100,32,115,116,102,108,100,32,108,100,102,108,100,97,32,108,100,115,102,108,100,32,115,116,115,102] [108,100,32,108,100,115,102,108,100,97,32,108,100,111,98,106,32,115,116,111,98,106,32,105,110,105,116,111,98,106,32,110,101,119,97,114,114,32,108,100,108,101,110,32,108,100,101,108,101,109,32,115,116,101]) (List.append [108,101,109,32,108,100,101,108,101,109,97,32,98,111,120,32,117,110,98,111,120,32,117,110,98,111,120,97,110,121,32,99,97,115,116,99,108,97,115,115,32,105,115,105,110,115,116,32,108,100,102,116,110,32] [110,101,119,100,101,108,32,116,104,114,111,119,32,114,101,116,104,114,111,119,32,108,101,97,118,101,32,101,110,100,102,105,110,97,108,108,121,32,101,110,100,102,105,108,116,101,114,32,105,110,32,111,117,116,32])))) } :ByteArray):ByteArray)=NM:=rfl
def zf:zY:= [110,111,112,32,108,100,97,114,103,32,115,116,97,114,103,32,108,100,97,114,103,97,32,108,100,108,111,99,32,115,116,108,111,99,32,108,100,108,111,99,97,32,108,100,99,52,32,108,100,99,56,32,108,100,110,117,108,108,32,100,117,112,32,112,111,112,32,97,100,100,32,115,117,98,32,109,117,108,32,100,105,118,32,114,101,109,32,97,110,100,32,111,114,32,120,111,114,32,115,104,108,32,115,104,114,32,110,101,103,32,110,111,116,32,97,100,100,111,118,102,32,115,117,98,111,118,102,32,109,117,108,111,118,102,32,99,111,110,118,52,32,99,111,110,118,56,32,99,111,110,118,111,118,102,52,32,99,101,113,32,99,103,116,32,99,108,116,32,98,114,32,98,114,116,114,117,101,32,98,114,102,97,108,115,101,32,98,101,113,32,98,103,101,32,98,103,116,32,98,108,101,32,98,108,116,32,98,110,101,32,99,97,108,108,32,99,97,108,108,118,105,114,116,32,110,101,119,111,98,106,32,114,101,116,32,116,97,105,108,32,108,100,102,108,100,32,115,116,102,108,100,32,108,100,102,108,100,97,32,108,100,115,102,108,100,32,115,116,115,102,108,100,32,108,100,115,102,108,100,97,32,108,100,111,98,106,32,115,116,111,98,106,32,105,110,105,116,111,98,106,32,110,101,119,97,114,114,32,108,100,108,101,110,32,108,100,101,108,101,109,32,115,116,101,108,101,109,32,108,100,101,108,101,109,97,32,98,111,120,32,117,110,98,111,120,32,117,110,98,111,120,97,110,121,32,99,97,115,116,99,108,97,115,115,32,105,115,105,110,115,116,32,108,100,102,116,110,32,110,101,119,100,101,108,32,116,104,114,111,119,32,114,101,116,104,114,111,119,32,108,101,97,118,101,32,101,110,100,102,105,110,97,108,108,121,32,101,110,100,102,105,108,116,101,114,32,105,110,32,111,117,116,32]
theorem Tg:NM.data.toList=zf:=by decide+kernel
theorem Te:NM.size=433:=by decide+kernel
theorem Pc:∀k:Fin 75,rK zf ((k.val:Int)+1) 1 []=(gZ ((k.val:Int)+1)).1:=by decide+kernel
def Pd (L:zY) (op:Int) (R:zY) (σ:AS) (m:Nat) (fr:Fr) (σ':AS):Prop:=
 ∃i j:Nat,∃n:Int,m=433-i∧i≤433∧j≤i∧1≤n∧n≤i+1∧rK (L.drop i) op n ((L.take i).drop j)=R∧σ'=σ∧
  fr=gD [(0,zI op),(3,zI n),(4,zI j),(5,zI i)]
theorem Ct (b:ByteArray) (i j:Nat):b.extract i j=⟨((b.data.toList.take j).drop i).toArray⟩:=by apply ByteArray.ext;apply Array.ext';simp[ByteArray.data_extract,List.extract_eq_take_drop,List.drop_take]
theorem Hg (op:Int) (σ:AS):ad prog 181 [zI op] σ (aq (.sc (.string ⟨(rK zf op 1 []).toArray⟩)) σ) No:=by
 refine ad.ob func181 ?_;have J:zf.length=433:=by decide+kernel
 have hn:=Te;have v:=Tg;have D:rK (zf.drop 0) op 1 ((zf.take 0).drop 0)=rK zf op 1 []:=rfl;generalize rK zf op 1 []=R at D⊢;generalize zf=L at J v D;refine Od (aa []) @Tf tI tI (k:= ?_);refine aA.cz (Pd L op R σ) (k0:=433) ⟨0,0,1,by omega,by omega,by omega,by omega,by omega,D,rfl,rfl⟩ (aP.mk (by simp)) (lR _) ?_;rintro m fr σ' ⟨i,o,n,hm,K,y,H,G,j,rfl,rfl⟩;by_cases I:i<433
 ·have l:((i:Int)<433)=True:=by simp;omega
  have E:IntKind.i64.wrap ((i:Int)+1)=((i+1:Nat):Int):=by rw[aI (by omega) (by omega)];simp
  have F:IntKind.i64.wrap (n+1)=n+1:=aI (by omega) (by omega);rw[J8 L i o (by omega) y]at j;have u:L[i]? =some L[i]:=List.getElem?_eq_getElem (by omega);by_cases w:L[i]=32
  ·rw[if_pos w]at j;rw[w]at u;by_cases q:n=op
   ·rw[if_pos q]at j;exact Od (aa []) tI (j7 l @hn @v @u @q @Ct @j) tI (k:=trivial)
   ·rw[if_neg q]at j;refine Od (aa []) tI (j5 l @hn @v @u @q) tI (k:= ?_);refine⟨m-1,_,_,by omega,aP.mk ?_,lR _,i+1,i+1,n+1,by omega,by omega,by omega,by omega,by omega,j,rfl,rfl⟩;simp[E,F]
  ·rw[if_neg w]at j;have A:((L[i].toNat:Int)=32)=False:=by simp;intro h;apply w;apply UInt8.toNat_inj.1;simp;omega
   refine Od (aa []) tI (j5 l @hn @v @u @A) tI (k:= ?_);refine⟨m-1,_,_,by omega,aP.mk ?_,lR _,i+1,o,n,by omega,by omega,by omega,by omega,by omega,j,rfl,rfl⟩;simp[E]
 ·have l:((i:Int)<433)=False:=by simp;omega
  have:L.drop i= []:=List.drop_eq_nil_of_le (by omega);rw[this]at j;refine gO aa l tI ?_;simp[←j,rK]
abbrev iI:dW:=(.S 0 (.S 2 (.S 3 (.S 4 (.S 5 (.S 6 (.S 7 (.S 8 (.S 9 (.S 10 (.S 11 (.U 1 (.S 12 (.A 13 (.S 14 .D) .Z))))))))))))))
theorem Hh (k:Nat) (j:k<75) (σ:AS):ad prog 181 [zI ((k:Int)+1)] σ (aq (.sc (.string ⟨(gZ ((k:Int)+1)).1.toArray⟩)) σ) No:=by have:=Hg ((k:Int)+1) σ;rw[Pc ⟨k,j⟩]at this;exact this
def OD:ByteArray:=({ data:=(List.toArray (List.append [48,52,52,52,51,51,51,49,50,48,48,48,48,48,48,48,48,48,48,48,48,48,48,48,48,48,48,48,48,48,48,48,48,53,53,53,53] [53,53,53,53,53,54,54,54,48,48,55,55,55,55,55,55,56,56,56,56,48,56,56,56,56,56,56,56,56,54,56,48,48,53,48,48,48,48])) } :ByteArray)
theorem Ll:(({ data:=(List.toArray (List.append [48,52,52,52,51,51,51,49,50,48,48,48,48,48,48,48,48,48,48,48,48,48,48,48,48,48,48,48,48,48,48,48,48,53,53,53,53] [53,53,53,53,53,54,54,54,48,48,55,55,55,55,55,55,56,56,56,56,48,56,56,56,56,56,56,56,56,54,56,48,48,53,48,48,48,48])) } :ByteArray):ByteArray)=OD:=rfl
def Lk:zY:= [48,52,52,52,51,51,51,49,50,48,48,48,48,48,48,48,48,48,48,48,48,48,48,48,48,48,48,48,48,48,48,48,48,53,53,53,53,53,53,53,53,53,54,54,54,48,48,55,55,55,55,55,55,56,56,56,56,48,56,56,56,56,56,56,56,56,54,56,48,48,53,48,48,48,48]
theorem Td:OD.data.toList=Lk:=by decide+kernel
theorem Tc:OD.size=75:=by decide+kernel
def FL:ByteArray:=({ data:=(List.toArray (List.append [48,48,48,48,48,48,48,48,48,48,48,48,48,48,48,48,48,48,48,48,48,48,48,48,48,48,48,48,48,48,48,48,48,49,50,50,50] [50,50,50,50,50,48,48,48,51,48,48,48,48,48,48,48,48,48,48,48,48,48,48,48,48,48,48,48,48,48,48,51,51,52,53,53,48,48])) } :ByteArray)
theorem Lo:(({ data:=(List.toArray (List.append [48,48,48,48,48,48,48,48,48,48,48,48,48,48,48,48,48,48,48,48,48,48,48,48,48,48,48,48,48,48,48,48,48,49,50,50,50] [50,50,50,50,50,48,48,48,51,48,48,48,48,48,48,48,48,48,48,48,48,48,48,48,48,48,48,48,48,48,48,51,51,52,53,53,48,48])) } :ByteArray):ByteArray)=FL:=rfl
def Ln:zY:= [48,48,48,48,48,48,48,48,48,48,48,48,48,48,48,48,48,48,48,48,48,48,48,48,48,48,48,48,48,48,48,48,48,49,50,50,50,50,50,50,50,50,48,48,48,51,48,48,48,48,48,48,48,48,48,48,48,48,48,48,48,48,48,48,48,48,48,48,51,51,52,53,53,48,48]
theorem Tl:FL.data.toList=Ln:=by decide+kernel
theorem Tk:FL.size=75:=by decide+kernel
theorem Pb:∀k:Fin 75,∃b,Lk[k.val]? =some b∧IntKind.u8.wrap ((b.toNat:Int)-48)=(gZ ((k.val:Int)+1)).2.1∧zW (gZ ((k.val:Int)+1)).2.1=(gZ ((k.val:Int)+1)).2.1:=by
 intro k;refine⟨Lk.getD k.val 0,?_,?_⟩
 ·revert k;decide+kernel
 ·revert k;decide+kernel
theorem PE:∀k:Fin 75,∃b,Ln[k.val]? =some b∧IntKind.u8.wrap ((b.toNat:Int)-48)=(gZ ((k.val:Int)+1)).2.2∧zW (gZ ((k.val:Int)+1)).2.2=(gZ ((k.val:Int)+1)).2.2:=by
 intro k;refine⟨Ln.getD k.val 0,?_,?_⟩
 ·revert k;decide+kernel
 ·revert k;decide+kernel
theorem rF (op:Int) (σ:AS):ad prog 128 [zI op] σ (aq (.cp [fO (gZ op),zI (uV op)]) σ) No:=by
 by_cases h:op<1∨75<op
 ·refine ad.qD func128 rfl rfl (by simp[ntmps128]) ?_;have h1:=tv op h;repeat (first
   |refine g1 ?_
   |((first|(with_reducible first|apply aA.fork|apply aA.region)|((with_reducible apply dX 3 iI);refine dY mixed ?_));simp-implicitDefEqProofs)
   |(refine g3 ?_;try simp-implicitDefEqProofs))
  intro id q;by_cases h0:op<1;all_goals
   have H:op<1∨75<op:=h;try (have O:75<op:=by omega)
   try simp only[h0]at H
   repeat (first
    |refine g1 ?_
    |((first|refine g2 ?_ |((with_reducible apply dX 3 iI);refine dY mixed ?_));simp-implicitDefEqProofs [h0,h1,fO,H, *])
    |(refine g3 ?_;try simp-implicitDefEqProofs [h0,h1,fO,H, *]))
   try simp[uV,h,h1,fO]
   all_goals (repeat (first|exact AS.le_refl _ |refine aw (by simp[q]) ?_))
 ·obtain⟨k,rfl⟩:∃k:Nat,op=(k:Int)+1:=⟨(op-1).toNat,by omega⟩;have G:k<75:=by omega
  refine ad.qD func128 rfl rfl (by simp[ntmps128]) ?_;have M:uV ((k:Int)+1)=0:=by simp[uV];omega
  obtain⟨b,v,o,n⟩:=Pb ⟨k,G⟩;obtain⟨c,u,l,j⟩:=PE ⟨k,G⟩;have hn:=fun σ=>Hh k G σ;have D:=Td;have F:=Tl;have A:=Tc;have E:=Tk;rw[M];simp only at v o n u l j;generalize Lk=Q at D v;generalize Ln=P at F u;generalize gZ ((k:Int)+1)=it at o n l j hn⊢;obtain⟨i1,i2,i3⟩:=it;simp only at o n l j hn;have y:OD.data[k]? =some b:=by rw[←Array.getElem?_toList,D];exact v
  have w:FL.data[k]? =some c:=by rw[←Array.getElem?_toList,F];exact u
  have L:((k:Int)+1<1)=False:=by simp;omega
  have K:(75<(k:Int)+1)=False:=by simp;omega
  have J:((k:Int)<75)=True:=by simp;omega
  have I:zW (k:Int)=k:=aI (by omega) (by omega);repeat (first
   |refine g1 ?_
   |((first|refine g2 ?_ |((with_reducible apply dX 3 iI);refine dY mixed ?_));simp-implicitDefEqProofs [↓Ll,↓Lo])
   |(refine g3 ?_;try simp-implicitDefEqProofs [↓Ll,↓Lo]))
  intro id q;repeat (first
   |refine g1 ?_
   |((first|refine g2 ?_ |((with_reducible apply dX 3 iI);refine dY mixed ?_)|((with_reducible apply aj.id);first|apply aj.aL (hn _))|((with_reducible apply aM.id);first|apply aM.aL (fun _ =>hn _)));simp-implicitDefEqProofs [↓Ll,↓Lo,L,K,J,I,y,w,o,n,l,j,A,E,underlying3,underlying5])
   |(refine g3 ?_;try simp-implicitDefEqProofs [↓Ll,↓Lo,L,K,J,I,y,w,o,n,l,j,A,E,underlying3,underlying5]))
  simp[fO];all_goals (repeat (first|exact AS.le_refl _ |refine aw (by simp[q]) ?_))
theorem zJ (x:dM) (h1: -9223372036854775808≤x.arg) (E:x.arg<9223372036854775808) (σ:AS):ad prog 127 [bJ x] σ (aq (zI (jT x)) σ) No:=by
 refine ad.qD func127 rfl rfl (by simp[ntmps127]) ?_;have l:=fun σ=>rF x.op σ;have hm:=fun o σ=>G7 o σ;have hw:=fun σ=>mf x.t 1 σ;have he:jT x=if x.op<1∨75<x.op then 3 else if jf x (gZ x.op).2.1 then 0 else 17:=rfl;have u:¬(x.op<1∨75<x.op)→jf x (gZ x.op).2.1=(decide ((om (gZ x.op).2.1).2≤x.arg∧x.arg≤(om (gZ x.op).2.1).1)&&(if (gZ x.op).2.1=8 then cq x.t else nL x.t)):=by
  intro h;refine EK _ x.arg h1 E x.t x.op ?_;have:=uU ⟨(x.op-1).toNat,by omega⟩;have e:(((x.op-1).toNat:Nat):Int)+1=x.op:=by omega
  simp only[e]at this;exact this
 generalize jT x=H at he⊢;have D:dU x.t 1=cq x.t:=rfl;rw[D]at hw;obtain⟨op,arg,k,y,d,r⟩:=x;have q:gP prog 8 49 (.agg [zI k,zI y,zI d,zB r]) (.agg [zI 0,zI 0,zI 0,zB false])=some (nL ⟨k,y,d,r⟩):=by simp[nL]
 simp only[bJ,fO,uV,cB]at l hw he u⊢;generalize cq ⟨k,y,d,r⟩=fd at hw u;generalize nL ⟨k,y,d,r⟩=nt at q u;by_cases h:op<1∨75<op
 ·simp only[h,if_true,if_false]at l he;repeat (first
   |refine g1 ?_
   |((first|(with_reducible first|apply aA.fork|apply aA.region));simp-implicitDefEqProofs)
   |(refine g3 ?_;try simp-implicitDefEqProofs))
  intro id A;repeat (first
   |refine g1 ?_
   |((first|(with_reducible first|apply aA.fork|apply aA.region)|((with_reducible apply aj.id);first|apply aj.aL (l _)));simp-implicitDefEqProofs)
   |(refine g3 ?_;try simp-implicitDefEqProofs))
  intro n ne v;have ne':¬id=n:=fun e=>ne e.symm
  repeat' (first
   |refine g1 ?_
   |((first|refine g2 ?_ |((with_reducible apply aj.id);first|apply aj.aL (l _)));simp-implicitDefEqProofs [ne,ne'])
   |trivial
   |(with_reducible apply And.intro)
   |((with_reducible first|apply aA.ret|apply aA.skip|apply aA.exit);try simp-implicitDefEqProofs [ne,ne'])
   |((with_reducible first|apply dd.split|apply bT.split|apply fS.split)<;>(intro w;(try simp-implicitDefEqProofs only[w]);(try simp at w))<;>try simp-implicitDefEqProofs [ne,ne']))
  all_goals (repeat' (with_reducible apply And.intro))
  all_goals first
   |exact AS.le_refl _
   |((repeat (first|exact AS.le_refl _ |assumption|refine aw (by simp[*]) ?_));done)
   |(refine du ?_;simp_all [iH];done)
   |(refine Bv ?_;rw[Bool.eq_iff_iff];simp[*];omega)
   |(refine du ?_;simp[*];omega)
   |(refine du ?_;split<;>simp_all [iH];done)
   |(exfalso;omega)
 ·simp only[h,if_true,if_false]at l he;rw[u h]at he;clear u;generalize (gZ op).2.1=o at l hm he;have j:∀σ,ad prog 180 [zI o] σ (aq (.cp [zI ((om o).1),zI ((om o).2)]) σ) No:=fun σ=>hm o σ;clear hm;generalize om o=mo at j he;obtain⟨G,F⟩:=mo;simp only at j he;repeat (first
   |refine g1 ?_
   |((first|(with_reducible first|apply aA.fork|apply aA.region));simp-implicitDefEqProofs)
   |(refine g3 ?_;try simp-implicitDefEqProofs))
  intro id A;repeat (first
   |refine g1 ?_
   |((first|refine g2 ?_ |((with_reducible apply aj.id);first|apply aj.aL (l _)|apply aj.aL (j _)));simp-implicitDefEqProofs [-qT,q])
   |(refine g3 ?_;try simp-implicitDefEqProofs [-qT,q]))
  intro n ne v;have ne':¬id=n:=fun e=>ne e.symm
  repeat' (first
   |refine g1 ?_
   |((first|refine g2 ?_ |((with_reducible apply aj.id);first|apply aj.aL (j _)|apply aj.aL (hw _)));simp-implicitDefEqProofs [ne,ne',-qT,q])
   |trivial
   |(with_reducible apply And.intro)
   |((with_reducible first|apply aA.ret|apply aA.skip|apply aA.exit);try simp-implicitDefEqProofs [ne,ne',-qT,q])
   |((with_reducible first|apply dd.split|apply bT.split|apply fS.split)<;>(intro w;(try simp-implicitDefEqProofs only[w]);(try simp at w))<;>try simp-implicitDefEqProofs [ne,ne',-qT,q]))
  all_goals clear hw j l q
  all_goals (repeat' (with_reducible apply And.intro))
  all_goals first
   |exact AS.le_refl _
   |((repeat (first|exact AS.le_refl _ |assumption|refine aw (by simp[*]) ?_));done)
   |(refine du ?_;simp_all [iH];done)
   |(refine Bv ?_;rw[Bool.eq_iff_iff];simp[*];omega)
   |(refine du ?_;simp[*];omega)
   |(refine du ?_;split<;>simp_all [iH];done)
   |(exfalso;omega)
def nH (c:UInt8):Bool:=decide (33≤c.toNat)&&decide (c.toNat≤126)
def bY (l:zY):Bool:=decide (0<l.length)&&(decide (l.length≤24)&&l.all nH)
def U1 (l:zY) (σ:AS) (m:Nat) (fr:Fr) (σ':AS):Prop:=
 ∃i:Nat,m=l.length-i∧i≤l.length∧l.all nH=(l.drop i).all nH∧σ'=σ∧fr=gD [(0,zS l),(12,zI l.length),(13,zI i)]
theorem tX (l:zY) (hl:l.length≤140737488355328) (σ:AS):ad prog 52 [zS l] σ (aq (.sc (.bool (bY l))) σ) No:=by
 refine ad.ob func52 ?_;by_cases h0:l= []
 ·subst h0;refine gO aa tI tI ?_;simp[bY]
 ·have E:0<l.length:=List.length_pos_iff.2 h0;by_cases A:l.length≤24
  ·have q:(24<(l.length:Int))=False:=by simp;omega
   have D:bY l=l.all nH:=by simp[bY,E,A]
   rw[D];refine gO aa (j2 @h0 @q) tI ?_;refine aA.cz (U1 l σ) (k0:=l.length) ⟨0,by omega,by omega,rfl,rfl,rfl⟩ (aP.mk (by simp)) (lR _) ?_;rintro m fr σ' ⟨i,hm,H,v,rfl,rfl⟩;by_cases n:i<l.length
   ·obtain⟨c,F,G,_,_⟩:=dK l n;obtain⟨_,o⟩:=List.getElem?_eq_some_iff.1 F;have y:((i:Int)<l.length)=True:=by simp;omega
    rw[G,List.all_cons]at v;by_cases J:c.toNat<33
    ·have w:nH c=false:=by simp[nH];omega
     have j:((c.toNat:Int)<33)=True:=by simp;omega
     refine gO aa (j4 y n @o @j) tI ?_;simp[v,w]
    ·by_cases I:126<c.toNat
     ·have w:nH c=false:=by simp[nH];omega
      have j:((c.toNat:Int)<33)=False:=by simp;omega
      have u:(126<(c.toNat:Int))=True:=by simp;omega
      refine gO aa (j5 y n @o @j @u) tI ?_;simp[v,w]
     ·have w:nH c=true:=by simp[nH];omega
      have j:((c.toNat:Int)<33)=False:=by simp;omega
      have u:(126<(c.toNat:Int))=False:=by simp;omega
      refine gO aa (j5 y n @o @j @u) tI ?_;refine⟨m-1,_,_,by omega,aP.mk ?_,lR _,i+1,by omega,by omega,by rw[v,w,Bool.true_and],rfl,rfl⟩;simp[dv (show i<4000000000000000000 by omega)]
   ·have y:((i:Int)<l.length)=False:=by simp;omega
    have:l.drop i= []:=List.drop_eq_nil_of_le (by omega);rw[this]at v;refine gO aa y tI ?_;simp[v]
  ·have q:(24<(l.length:Int))=True:=by simp;omega
   have D:bY l=false:=by simp[bY,A]
   rw[D];exact gE aa (j2 @h0 @q) tI
def Rz (l:zY) (σ:AS) (m:Nat) (fr:Fr) (σ':AS):Prop:=
 ∃i:Nat,m=l.length-i∧i≤l.length∧l.all nH=(l.drop i).all nH∧σ'=σ∧fr=gD [(0,zS l),(3,zI i)]
theorem qu (l:zY) (hl:l.length≤140737488355328) (σ:AS):ad prog 22 [zS l] σ (aq (.sc (.bool (bY l))) σ) No:=by
 refine ad.ob func22 ?_;refine gO aa tI tI ?_;refine aA.cz (Rz l σ) (k0:=l.length) ⟨0,by omega,by omega,rfl,rfl,rfl⟩ (aP.mk (by simp)) (lR _) ?_;rintro m fr σ' ⟨i,hm,E,w,rfl,rfl⟩;by_cases n:i<l.length
 ·obtain⟨c,A,D,_,_⟩:=dK l n;obtain⟨_,q⟩:=List.getElem?_eq_some_iff.1 A;have u:((i:Int)<l.length)=True:=by simp;omega
  rw[D,List.all_cons]at w;by_cases G:c.toNat<33
  ·have o:nH c=false:=by simp[nH];omega
   have y:bY l=false:=by simp[bY,w,o]
   have j:((c.toNat:Int)<33)=True:=by simp;omega
   exact gE aa (j5 u n @q @j @y) tI
  ·by_cases F:126<c.toNat
   ·have o:nH c=false:=by simp[nH];omega
    have y:bY l=false:=by simp[bY,w,o]
    have j:((c.toNat:Int)<33)=False:=by simp;omega
    have v:(126<(c.toNat:Int))=True:=by simp;omega
    exact gE aa (j6 u n @q @j @v @y) tI
   ·have o:nH c=true:=by simp[nH];omega
    have j:((c.toNat:Int)<33)=False:=by simp;omega
    have v:(126<(c.toNat:Int))=False:=by simp;omega
    refine gO aa (j5 u n @q @j @v) tI ?_;refine⟨m-1,_,_,by omega,aP.mk ?_,lR _,i+1,by omega,by omega,by rw[w,o,Bool.true_and],rfl,rfl⟩;simp[dv (show i<4000000000000000000 by omega)]
 ·have u:((i:Int)<l.length)=False:=by simp;omega
  have:l.drop i= []:=List.drop_eq_nil_of_le (by omega);rw[this]at w;simp at w
  repeat' (first
   |refine g1 ?_
   |((first|refine g2 ?_);simp-implicitDefEqProofs [u])
   |trivial
   |(with_reducible apply j2)
   |((with_reducible first|apply aA.ret|apply aA.skip|apply aA.exit);try simp-implicitDefEqProofs [u])
   |((with_reducible first|apply dd.split|apply bT.split|apply fS.split)<;>(intro o;(try simp-implicitDefEqProofs only[o]);(try simp at o))<;>try simp-implicitDefEqProofs [u]))
  all_goals
   apply Bv;rw[Bool.eq_iff_iff];simp[bY];try simp_all
  all_goals try omega
namespace Rg
open Tryz
structure Cl where
 k:Int
 tf:Int
 tt:Int
 hf:Int
 ht:Int
 fl:Int
 a:Int
 b:Int
 c:Int
 r:Bool
def jg (c:Cl):AV:= .agg [bg c.k,bg c.tf,bg c.tt,bg c.hf,bg c.ht,bg c.fl,bg c.a,bg c.b,bg c.c,.sc (.bool c.r)]
structure Sn where
 f:Int
 t:Int
deriving DecidableEq
def GK (s:Sn):AV:= .agg [zI s.f,zI s.t]
structure Pt where
 k:Int
 p:Int
 s:Sn
def jE (x:Pt):AV:= .agg [zI x.k,zI x.p,zI x.s.f,zI x.s.t]
def fN (s t:Sn):Bool:=decide (s.f<t.t)&&decide (t.f<s.t)
def kX (s t:Sn):Bool:= !decide (s=t)&&(decide (t.f≤s.f)&&decide (s.t≤t.t))
def gq (s:Sn) (n:Int):Bool:=decide (0≤s.f)&&(decide (s.f<s.t)&&decide (s.t≤n))
theorem HN (s t:Sn) (σ:AS):ad prog 259 [GK s,GK t] σ (aq (.sc (.bool (fN s t))) σ) No:=by
 refine ad.ob func259 ?_;simp only[GK,fN];refine gO aa tI tI ?_;intro id q;refine gO aa tI tI ?_;intro u l n;have j:=ba l
 repeat' (first
  |refine g1 ?_
  |((first|refine g2 ?_);simp-implicitDefEqProofs [j])
  |trivial
  |(with_reducible apply j2)
  |((with_reducible first|apply aA.ret|apply aA.skip|apply aA.exit);try simp-implicitDefEqProofs)
  |((with_reducible first|apply dd.split|apply bT.split|apply fS.split)<;>(intro o;(try simp-implicitDefEqProofs only[o]);(try simp at o))<;>try simp-implicitDefEqProofs [j]))
 all_goals exact gJ tI
theorem Tv:Program.stoodInHeld prog 295=false:=by kernel_rfl
@[simp] theorem TY:Program.eqGuardType prog prog.depth 295=false:=by kernel_rfl
@[simp] theorem TV (a b l j:Int):gP prog 8 295 (.agg [zI a,zI b]) (.agg [zI l,zI j])=some (decide (a=l)&&decide (b=j)):=by simp[gP,ng,underlying295,underlying3]
theorem Tw:Program.stoodInHeld prog 300=false:=by kernel_rfl
@[simp] theorem TZ:Program.eqGuardType prog prog.depth 300=false:=by kernel_rfl
@[simp] theorem TW (a b l j:Int):gP prog 8 300 (.agg [zI a,zI b]) (.agg [zI l,zI j])=some (decide (a=l)&&decide (b=j)):=by simp[gP,ng,underlying300,underlying3]
theorem Ej (s t:Sn) (σ:AS):ad prog 225 [GK s,GK t] σ (aq (.sc (.bool (kX s t))) σ) No:=by
 obtain⟨a,b⟩:=s;obtain⟨c,d⟩:=t;refine ad.ob func225 ?_;simp only[GK,kX];refine gO aa tI tI ?_;intro id q;refine gO aa tI tI ?_;intro u l n;have j:=ba l
 repeat' (first
  |refine g1 ?_
  |((first|refine g2 ?_);simp-implicitDefEqProofs [j])
  |trivial
  |(with_reducible apply j2)
  |((with_reducible first|apply aA.ret|apply aA.skip|apply aA.exit);try simp-implicitDefEqProofs)
  |((with_reducible first|apply dd.split|apply bT.split|apply fS.split)<;>(intro o;(try simp-implicitDefEqProofs only[o]);(try simp at o))<;>try simp-implicitDefEqProofs [j]))
 all_goals exact gJ tI
theorem xq (s:Sn) (n:Int) (σ:AS):ad prog 219 [GK s,zI n] σ (aq (.sc (.bool (gq s n))) σ) No:=by
 refine ad.ob func219 ?_;simp only[GK,gq];refine gO aa tI tI ?_;intro id l
 repeat' (first
  |refine g1 ?_
  |((first|(with_reducible first|apply aA.fork|apply aA.region));simp-implicitDefEqProofs)
  |trivial
  |(with_reducible apply j2)
  |((with_reducible first|apply aA.ret|apply aA.skip|apply aA.exit);try simp-implicitDefEqProofs)
  |((with_reducible first|apply dd.split|apply bT.split|apply fS.split)<;>(intro j;(try simp-implicitDefEqProofs only[j]);(try simp at j))<;>try simp-implicitDefEqProofs))
 all_goals exact gJ tI
def bc (k:Int) (c:Cl):List Pt:= [⟨k,1,⟨c.tf,c.tt⟩⟩,⟨k,2,⟨c.hf,c.ht⟩⟩]++(if c.k=2 then [⟨k,3,⟨c.fl,c.hf⟩⟩]else [])
def JX (l:List Pt):AV:= .ah 302 (l.map jE) .aJ false
theorem ml (k:Int) (c:Cl) (σ:AS):ad prog 221 [zI k,jg c] σ (aq (JX (bc k c)) σ) No:=by
 refine ad.ob func221 ?_;simp only[jg,JX,bc,aG];refine gO aa tI tI ?_;intro id n;by_cases h:c.k=2
 ·refine gO aa @h tI ?_;intro o j l;refine gO aa tI tI ?_;simp[jE];all_goals exact gJ tI
 ·refine gO aa @h tI ?_;simp[jE];all_goals exact gJ tI
def jL {α:Type}(g:α→Bool) (l:List α):Int:=match l.findIdx? g with|some i=>(i:Int)|none=> -1
theorem gr {α:Type}{g:α→Bool}{l:List α}{i:Nat}(h:i<l.length) (h1:∀x∈l.take i,g x=false) (n:g l[i]=true):jL g l=i:=by
 have:l.findIdx? g=some i:=by rw[List.findIdx?_eq_some_iff_getElem];refine⟨h,n,fun j o=> ?_⟩;rw[h1 _ (by rw[List.mem_take_iff_getElem];exact⟨j,by omega,rfl⟩)];simp
 simp[jL,this]
theorem il {α:Type}{g:α→Bool}{l:List α}(h1:∀x∈l,g x=false):jL g l= -1:=by
 have:l.findIdx? g=none:=by rw[List.findIdx?_eq_none_iff];exact h1
 simp[jL,this]
theorem iO {α:Type}(g:α→Bool) (l:List α):decide (0≤jL g l)=l.any g:=by
 unfold jL;cases h:l.findIdx? g with
 |none=>rw[List.findIdx?_eq_none_iff]at h;simp;exact h
 |some i=>rw[List.findIdx?_eq_some_iff_getElem]at h;obtain⟨h1,j,_⟩:=h;simp;exact⟨_,List.getElem_mem h1,j⟩
theorem dZ {α:Type}{g:α→Bool}{l:List α}{i:Nat}(h:i<l.length) (h1:∀x∈l.take i,g x=false) (n:g l[i]=false):∀x∈l.take (i+1),g x=false:=by
 intro x j;rw[List.take_succ_eq_append_getElem h]at j;rcases List.mem_append.1 j with j|j
 ·exact h1 x j
 ·simp at j;rw[j];exact n
theorem vn (l:List Pt) (o:cA) (nl:Bool) (w:AV) (g:Pt→Bool) (σ:AS) (hl:l.length≤140737488355328) (hf:∀x∈l,nJ prog σ w [jE x] (.sc (.bool (g x)))):
 ad prog 260 [.ah 302 (l.map jE) o nl,w] σ (aq (zI (jL g l)) σ) No:=by
 refine ad.ob func260 ?_;refine gO aa tI tI ?_;refine aA.aY (α:=(Nat)) (0) (fun i=>l.length-i) (fun i=>i≤l.length∧ ∀x∈l.take i,g x=false) [(0,?_),(1,?_),(7,?_)] (fun i=> [(8,zI i)]) (fun i=>σ) ?_ ?_ ?_ ?_;rotate_left 3
 ·exact gF tI
 ·exact gT
 ·(try dsimp only)<;>first|exact trivial|exact⟨by omega,rfl⟩|omega|(simp;done)|exact⟨by omega,by simp⟩|exact⟨by omega,by simp,rfl⟩
 intro i q;try dsimp only at q⊢
 obtain⟨y,v⟩:=q;simp only[fm];by_cases j:i<l.length
 ·have n:zW ((i:Int)+1)=((i+1:Nat):Int):=bh (by omega);have hu:=(hf l[i] (List.getElem_mem j));simp only[jE]at hu;cases u:g l[i]with
  |true=>
   rw[u]at hu;rw[gr j v u];repeat (first
    |refine g1 ?_
    |((first|refine g2 ?_ |((with_reducible apply aj.id);first|apply (hu.use)));simp-implicitDefEqProofs [j,jE])
    |(refine g3 ?_;try simp-implicitDefEqProofs))
  |false=>
   rw[u]at hu;repeat (first
    |refine g1 ?_
    |((first|refine g2 ?_ |((with_reducible apply aj.id);first|apply (hu.use)));simp-implicitDefEqProofs [j,jE,n])
    |(refine g3 ?_;try simp-implicitDefEqProofs))
   refine aH.mk (i+1) (by(try dsimp only);omega) (gF tI) gT ?_;try dsimp only
   exact⟨j,dZ j v u⟩
 ·rw[il (by rwa [List.take_of_length_le (by omega)]at v)];exact gE aa (j2 j @ae) tI
theorem fh (l:List Pt) (o:cA) (nl:Bool) (j:AV) (g:Pt→Bool) (σ:AS) (hl:l.length≤140737488355328) (hf:∀x∈l,nJ prog σ j [jE x] (.sc (.bool (g x)))):
 ad prog 223 [.ah 302 (l.map jE) o nl,j] σ (aq (.sc (.bool (l.any g))) σ) No:=by
 have n:=vn l o nl j g σ hl hf;rw[←iO];refine ad.ob func223 ?_;exact gE aa tI @n
abbrev nY:dW:=(.R 0 (.U 1 (.R 2 (.U 3 (.A 4 .D .Z)))))
theorem C2 (S:List Nat):cu prog [(5,nY)] S:=mixed
def KC (f:Nat):AV:= .sc (.func (.func f) #[] #[])
theorem FE (a b:Pt) (f u q:Nat) (may:Pt→Pt→Bool) (hm:∀σ x y,ad prog f [jE x,jE y] σ (aq (.sc (.bool (may x y))) σ) No) (σ:AS)
 (h1:σ u=some (.cells 302 (jE a).cells)) (w:σ q=some (.cells 303 [KC f])):
 ad prog 258 [jE b,.ptr u 0,.ptr q 0] σ (aq (.sc (.bool (fN a.s b.s&& !may a b))) σ) No:=by
 have n:=fun σ=>HN a.s b.s σ;have v:=fun σ=>hm σ a b;simp only[jE,KC,GK,bq]at h1 w n v⊢;refine ad.ob func258 ?_;refine gO aa tI tI ?_;intro id o;have l:¬u=id:=nq h1 o;have j:¬q=id:=nq w o;cases A:fN a.s b.s with
 |true=>rw[A]at n;refine gO aa (j4 l @h1 j @w) (j2 @n @v) ?_;all_goals exact gJ tI
 |false=>rw[A]at n;refine gO aa (j4 l @h1 j @w) (j2 @n @v) ?_;all_goals exact gJ tI
theorem FF (a:Pt) (m:List Pt) (o:cA) (nl:Bool) (hl:m.length≤140737488355328) (f u n:Nat) (may:Pt→Pt→Bool) (hm:∀σ x y,ad prog f [jE x,jE y] σ (aq (.sc (.bool (may x y))) σ) No) (σ:AS)
 (h1:σ u=some (.cells 297 [.ah 302 (m.map jE) o nl])) (w:σ n=some (.cells 303 [KC f])):
 ad prog 257 [jE a,.ptr u 0,.ptr n 0] σ (aq (.sc (.bool (m.any fun b=>fN a.s b.s&& !may a b))) σ) No:=by
 have A:=fun id (D:σ id=none) (v:¬n=id)=>fh m o nl (.fn (.func 258) [] [.ptr id 0,.ptr n 0]) (fun b=>fN a.s b.s&& !may a b) (σ.set id (.cells 302 (jE a).cells)) hl
  (fun x _ =>nJ.fn (FE a x f id n may hm _ (by simp) (by simp[v,w])))
 simp only[jE,KC,bq]at h1 w A⊢;refine ad.ob func257 ?_;refine gO aa tI tI ?_;intro id q;have l:¬u=id:=nq h1 q;have j:¬n=id:=nq w q;refine gO aa (j2 l @h1) (A id q j) ?_;all_goals exact gJ tI
def fP (l m:List Pt) (may:Pt→Pt→Bool):Bool:=l.any fun a=>m.any fun b=>fN a.s b.s&& !may a b
theorem vH (l m:List Pt) (D v:cA) (n1 n2:Bool) (hl:l.length≤140737488355328) (w:m.length≤140737488355328) (f:Nat) (may:Pt→Pt→Bool) (hm:∀σ x y,ad prog f [jE x,jE y] σ (aq (.sc (.bool (may x y))) σ) No) (σ:AS):
 ad prog 220 [.ah 302 (l.map jE) D n1,.ah 302 (m.map jE) v n2,KC f] σ (aq (.sc (.bool (fP l m may))) σ) No:=by
 have E:=fun id o (A:¬id=o)=>fh l D n1 (.fn (.func 257) [] [.ptr id 0,.ptr o 0]) (fun a=>m.any fun b=>fN a.s b.s&& !may a b)
  ((σ.set id (.cells 297 [.ah 302 (m.map jE) v n2])).set o (.cells 303 [KC f])) hl
  (fun x _ =>nJ.fn (FF x m v n2 w f id o may hm _ (by simp[A]) (by simp)))
 simp only[KC]at E⊢;refine ad.ob func220 ?_;refine gO aa tI tI ?_;intro id u;refine gO aa tI tI ?_;intro o j q;have n:=ba j;refine gO aa tI (E id o n) ?_;refine⟨Wk.refl _,aw ?_ (aw u (lR _))⟩;simp[q,j]
def pL (a b:Pt):Bool:=decide (a.k=b.k)&&decide (a.p=b.p)
theorem GY (σ:AS) (a b:Pt):ad prog 222 [jE a,jE b] σ (aq (.sc (.bool (pL a b))) σ) No:=by refine ad.ob func222 ?_;simp only[jE,pL];refine gO aa tI tI ?_;intro id n;refine gO aa tI tI ?_;intro o j l;refine gO aa j tI ?_;all_goals exact gJ tI
theorem HK (σ:AS) (a b:Pt):ad prog 228 [jE a,jE b] σ (aq (zB false) σ) No:=by refine ad.ob func228 ?_;simp only[jE];refine gO aa tI tI ?_;intro id n;refine gO aa tI tI ?_;intro o j l;refine gO aa tI tI ?_;all_goals exact gJ tI
theorem Gr (σ:AS) (a b:Pt):ad prog 227 [jE a,jE b] σ (aq (.sc (.bool (decide (a.p=1)&&decide (b.p=1)))) σ) No:=by
 refine ad.ob func227 ?_;simp only[jE];refine gO aa tI tI ?_;intro id q;refine gO aa tI tI ?_;intro u l n;have j:=ba l
 repeat' (first
  |refine g1 ?_
  |((first|refine g2 ?_);simp-implicitDefEqProofs [j])
  |trivial
  |(with_reducible apply j2)
  |((with_reducible first|apply aA.ret|apply aA.skip|apply aA.exit);try simp-implicitDefEqProofs)
  |((with_reducible first|apply dd.split|apply bT.split|apply fS.split)<;>(intro o;(try simp-implicitDefEqProofs only[o]);(try simp at o))<;>try simp-implicitDefEqProofs))
 all_goals exact gJ tI
theorem Ih (x y:Pt) (id:Nat) (σ:AS) (h1:σ id=some (.cells 302 (jE x).cells)):
 ad prog 224 [jE y,.ptr id 0] σ (aq (.sc (.bool (!kX y.s x.s))) σ) No:=by
 have hw:=fun σ=>Ej y.s x.s σ;simp only[jE,GK,bq]at h1 hw⊢;refine ad.ob func224 ?_;refine gO aa tI tI ?_;intro n l;have j:¬id=n:=nq h1 l;refine gO aa (j2 j @h1) @hw ?_;all_goals exact gJ tI
theorem Ig (x y:Pt) (id:Nat) (σ:AS) (h1:σ id=some (.cells 302 (jE x).cells)):
 ad prog 226 [jE y,.ptr id 0] σ (aq (.sc (.bool (!decide (y.p=1)&&decide (y.s.f=x.s.f)))) σ) No:=by
 simp only[jE,bq]at h1⊢;refine ad.ob func226 ?_;refine gO aa tI tI ?_;intro n l;have j:¬id=n:=nq h1 l
 repeat' (first
  |refine g1 ?_
  |((first|refine g2 ?_);simp-implicitDefEqProofs)
  |trivial
  |(with_reducible apply j2)
  |((with_reducible first|apply aA.ret|apply aA.skip|apply aA.exit);try simp-implicitDefEqProofs)
  |((with_reducible first|apply dd.split|apply bT.split|apply fS.split)<;>(intro o;(try simp-implicitDefEqProofs only[o]);(try simp at o))<;>try simp-implicitDefEqProofs [j,h1]))
 all_goals exact gJ tI
def dp (n:Int) (c:Cl):Int:=
 if (decide (c.k<1)||(decide (4<c.k)||(!gq ⟨c.tf,c.tt⟩ n|| !gq ⟨c.hf,c.ht⟩ n)))=true then 3 else
 if ((decide (c.k=2)&&(decide (c.fl<0)||decide (c.hf≤c.fl)))||(!decide (c.k=2)&& !decide (c.fl= -1)))=true then 3 else
 if fP (bc 0 c) (bc 0 c) pL=true then 12 else 0
theorem IQ (n:Int) (c:Cl) (σ:AS):ad prog 178 [zI n,jg c] σ (aq (zI (dp n c)) σ) No:=by
 have h1:=fun σ=>xq ⟨c.tf,c.tt⟩ n σ;have q:=fun σ=>xq ⟨c.hf,c.ht⟩ n σ;have o:=fun σ=>ml 0 c σ;have l:(bc 0 c).length≤140737488355328:=by simp[bc];split<;>simp
 have j:=fun σ=>vH (bc 0 c) (bc 0 c) .aJ .aJ false false l l 222 pL GY σ;simp only[jg,GK,aG,JX,KC,dp]at h1 q o j⊢;generalize gq ⟨c.tf,c.tt⟩ n=A at*;generalize gq ⟨c.hf,c.ht⟩ n=y at*;generalize fP (bc 0 c) (bc 0 c) pL=w at*;generalize (bc 0 c).map jE=L at*;generalize c.k=k at*;generalize c.fl=fl at*;refine ad.ob func178 ?_;refine gO C2 tI tI ?_;intro id v;cases A<;>cases y<;>cases w;all_goals
  repeat' (first
   |refine g1 ?_
   |((first|(with_reducible first|apply aA.fork|apply aA.region)|((with_reducible apply dX 5 nY);refine dY mixed ?_)|((with_reducible apply aj.id);first|apply aj.aL (h1 _)|apply aj.aL (q _)|apply aj.aL (o _)|apply aj.aL (j _))|((with_reducible apply aM.id);first|apply aM.aL (fun _ =>h1 _)|apply aM.aL (fun _ =>q _)|apply aM.aL (fun _ =>o _)|apply aM.aL (fun _ =>j _)));simp-implicitDefEqProofs)
   |trivial
   |(with_reducible apply j2)
   |((with_reducible first|apply aA.ret|apply aA.skip|apply aA.exit);try simp-implicitDefEqProofs)
   |((with_reducible first|apply dd.split|apply bT.split|apply fS.split)<;>(intro u;(try simp-implicitDefEqProofs only[u]);(try simp at u))<;>try simp-implicitDefEqProofs))
  all_goals exact gJ tI
end Rg
end Go.Proofs.YtknalmoackcpbaaGreat
