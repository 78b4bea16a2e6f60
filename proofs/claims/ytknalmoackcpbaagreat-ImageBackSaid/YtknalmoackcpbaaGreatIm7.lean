/- Own. -/
import Derived.Test.YtknalmoackcpbaaGreatRows
import Derived.JoinedCond
import Derived.Test.YtknalmoackcpbaaGreatLdB
set_option maxRecDepth 100000
set_option maxHeartbeats 3200000
set_option linter.all false
namespace Go.Proofs.YtknalmoackcpbaaGreat
namespace Im
open Go Go.AW
theorem dC (S:List Nat):aH Tryz.prog [] S:=mixed
open Rg (Cl ic aW)
def C3 (t:TD):TD:= { t with fn:=t.aZ.isEmpty }
def yh (m:Mt):Mt:= { m with pn:=m.ps.isEmpty,ln:=m.ls.isEmpty,cn:=m.code.isEmpty,xn:=m.cls.isEmpty }
def jO (g:bZ):bZ:= { g with ts:=g.ts.map C3,tn:=g.ts.isEmpty,fn:=g.fs.isEmpty,ms:=g.ms.map yh,mn:=g.ms.isEmpty }
structure Sh (g:bZ):Prop where
 ts:g.ts.length≤40
 fs:g.fs.length≤80
 ms:g.ms.length≤80
 t:∀t∈g.ts,t.aZ.length≤20
 m:∀m∈g.ms,m.ps.length≤30∧m.ls.length≤30∧m.code.length≤200∧m.cls.length≤20
theorem lG {P:Program}{a b c d u q o n:AV}(h1:AV.Wk P a u) (y:AV.Wk P b q) (w:AV.Wk P c o) (v:AV.Wk P d n):AV.Wk P (.agg [a,b,c,d]) (.agg [u,q,o,n]):=by
 intro G x h;cases h with
 |agg vs l h=>
  refine .agg vs l fun i j=> ?_
  match i,j with
  |0,j=>exact h1 _ _ (h 0 j)
  |1,j=>exact y _ _ (h 1 j)
  |2,j=>exact w _ _ (h 2 j)
  |3,j=>exact v _ _ (h 3 j)
theorem tell {P:Program}{n:Nat}{ds:List Deferred}{c:Code}{Q:AQ}{s:Fr}{σ:AS}(id:Nat) {ty:TypeId}{cs:List AV}(cs':List AV) (σ':AS) (i:σ id=some (.cells ty cs)) (hl:cs'.length=cs.length)
 (l:∀k,k<cs'.length→AV.Wk P (cs.getD k .any) (cs'.getD k .any)) (hle:∀j,¬j=id→ ∀y,σ' j=some y→σ j=some y)
 (h:ae P n ds c Q s (σ'.set id (.cells ty cs'))):ae P n ds c Q s σ:=
 ae.KQ id cs' i hl l (ae.weaken h (fun _ =>Wk.refl _) (fun j y d=>by
  by_cases e:j=id
  ·subst e;simpa[AS.set]using d
  ·simp[AS.set,e]at d⊢;exact hle j e y d))
theorem Hj (g:bZ) (hS:Sh g) (σ:AS):aa Tryz.prog 10 [pD g] σ (ao (pD (jO g)) σ) No:=by
 have hB:=hS.ts;have hA:=hS.fs;have hz:=hS.ms;simp only[b9];refine aa.ob Tryz.func10 ?_;refine gO dC tI tI ?_;intro Y e9;refine gO dC tI tI ?_;intro X cb e8;have Q:=aA cb;refine gO dC Q tI ?_;intro id3 M O e7;have P:=aA M;have l:=aA O;refine gO dC tI tI ?_;refine ae.pO id3 0 46 [] true (ty:=26) (cs:= [.ai,.ai,.ai,.sc (.int .i64 g.entry)]) (by simp) (by simp) (.inr ⟨by simp,rfl,rfl⟩) ?_;simp-implicitDefEqProofs;intro tA u al am g5;have o:=aA u;have fw:=aA al;have a9:=aA am;obtain⟨B,hh,b4,dl,ej,g3⟩:=Fa σ (.cells 26 [.an 46 (g.ts.map kE) .aE g.tn,.an 56 (g.fs.map ny) .aE g.fn,.an 53 (g.ms.map jK) .aE g.mn,.sc (.int .i64 g.entry)]) (.cells 26 [.ai,.ai,.ai,.sc (.int .i64 0)]) e9 e8 Q;simp only[hh];clear hh;have hp:B id3=none:=by rw[ej id3 O M];exact e7
 have ho:B tA=none:=by rw[ej tA am al];exact g5
 refine ae.bp (α:=(Nat)) (0) (fun i=>g.ts.length-i) (fun i=>i≤g.ts.length) [(1,?_),(2,?_),(3,?_)] (fun i=> [(4,.sc (.int .i64 i))]) (fun i=>(B.set id3 (.cells 26 [.an 46 (((g.ts.take i).map C3).map kE) (.tok tA) (decide (i=0)),.ai,.ai,.sc (.int .i64 g.entry)])).set tA (.tok i)) ?_ ?_ ?_ ?_;rotate_left 3
 ·exact gF tI
 ·exact gT
 ·(try dsimp only)<;>first|exact trivial|exact⟨by omega,rfl⟩|omega|(simp;done)|exact⟨by omega,by simp⟩|exact⟨by omega,by simp,rfl⟩
 intro i d6;try dsimp only at d6⊢
 obtain hi:=d6;simp only[gj];by_cases T:i<g.ts.length
 ·have gI:IntKind.i64.wrap ((i:Int)+1)=((i+1:Nat):Int):=cv (by omega);have hs:=hS.t g.ts[i] (List.getElem_mem T);generalize hc:g.ts[i]=t at*;have e6:min i g.ts.length=i:=by omega
  refine gO dC (j7 T @hc @eu @aI l a9 @b4) tI ?_;intro id5 A q ce;have af:=aA A;have L:=aA q;have cd:¬Y=id5:=nq b4 ce;have e4:=aA cd;have ca:¬X=id5:=nq dl ce;have e0:=aA ca;refine gO dC tI tI ?_;intro t6 v I w eb;have a6:=aA v;have bv:=aA I;have a8:=aA w;have c6:¬Y=t6:=nq b4 eb;have fv:=aA c6;have c0:¬X=t6:=nq dl eb;have ft:=aA c0;refine gO (S:= [9]) dC (j2 a6 v) tI ?_;refine ae.KQ id5 [.sc (.string ⟨t.name.toArray⟩),.sc (.int .i64 t.flags),.sc (.int .i64 t.ext),.an 3 (t.aZ.map iV) .aE t.aZ.isEmpty] (by simp[a6];exact⟨rfl,rfl⟩) (by simp) (fun k hk=> ?_) ?_
  ·match k,hk with
   |0,_ =>simp
   |1,_ =>simp
   |2,_ =>simp
   |3,_ =>simp
  refine gO dC (j2 (j7 bv a8 v I w @e6 u) (j6 o @gI A af q L)) tI ?_;have d7:List.take (i+1) (List.map (kE∘C3) g.ts)=List.take i (List.map (kE∘C3) g.ts)++ [kE (C3 t)]:=by rw[List.take_succ_eq_append_getElem (by simpa using T)];simp[hc]
  refine aP.mk (i+1) (by(try dsimp only);omega) (gF tI) (by(try dsimp only);(intro j_ y_ d;by_cases U:j_=id3;(· subst U;simp[AS.set,a8,L,o,d7,eu,C3]at d⊢;try first|exact d|(cases d;done));by_cases em:j_=tA;(· subst em;simp[AS.set,bv,af]at d⊢;try first|exact d|(cases d;done));by_cases eg:j_=id5;(· subst eg;simp[AS.set,A,q,ce]at d⊢;try first|exact d|(cases d;done));by_cases er:j_=t6;(· subst er;simp[AS.set,I,w,eb]at d⊢;try first|exact d|(cases d;done));simp[AS.set,U,em,eg,er]at d⊢;try exact d)) ?_;try dsimp only
  exact T
 ·obtain rfl:i=g.ts.length:=by omega
  refine gO dC (j6 T @aI l o a9 @b4) tI ?_;intro tF d5 ac ea;have gM:=aA d5;have a7:=aA ac;have c5:¬Y=tF:=nq b4 ea;have fk:=aA c5;have cl:¬X=tF:=nq dl ea;have fi:=aA cl;simp-implicitDefEqProofs [a7,ac,u];refine gO dC tI tI ?_;refine tell id3 [.an 46 (g.ts.map (kE∘C3)) .aE g.ts.isEmpty,.an 56 (g.fs.map ny) .aE g.fs.isEmpty,.ai,.sc (.int .i64 g.entry)] B (by simp[a7,o];exact⟨rfl,rfl⟩) (by simp) (fun k hk=> ?_) (fun j e y H=> ?_) ?_
  ·match k,hk with
   |0,_ =>cases g.ts<;>simp
   |1,_ =>simp
   |2,_ =>simp
   |3,_ =>simp
  ·by_cases e1:j=tF
   ·subst e1;rw[ea]at H;cases H
   ·by_cases e2:j=tA
    ·subst e2;rw[ho]at H;cases H
    ·simp[AS.set,e,e1,e2];exact H
  refine ae.pO id3 2 53 [] true (ty:=26) (cs:= [.an 46 (g.ts.map (kE∘C3)) .aE g.ts.isEmpty,.an 56 (g.fs.map ny) .aE g.fs.isEmpty,.ai,.sc (.int .i64 g.entry)]) (by simp) (by simp) (.inr ⟨by simp,rfl,rfl⟩) ?_;simp-implicitDefEqProofs;intro tM ab d9;have n:=aA ab;have F:¬Y=tM:=nq b4 d9;have fe:=aA F;have E:¬X=tM:=nq dl d9;have fd:=aA E;refine ae.bp (α:=(Nat)) (0) (fun j=>g.ms.length-j) (fun j=>j≤g.ms.length) [(1,?_),(2,?_),(3,?_)] (fun j=> [(7,.sc (.int .i64 j))]) (fun j=>(B.set id3 (.cells 26 [.an 46 (g.ts.map (kE∘C3)) .aE g.ts.isEmpty,.an 56 (g.fs.map ny) .aE g.fs.isEmpty,.an 53 (((g.ms.take j).map yh).map jK) (.tok tM) (decide (j=0)),.sc (.int .i64 g.entry)])).set tM (.tok j)) ?_ ?_ ?_ ?_;rotate_left 3
  ·exact gF tI
  ·exact gT
  ·(try dsimp only)<;>first|exact trivial|exact⟨by omega,rfl⟩|omega|(simp;done)|exact⟨by omega,by simp⟩|exact⟨by omega,by simp,rfl⟩
  intro j d6;try dsimp only at d6⊢
  obtain hj:=d6;simp only[gj];by_cases T:j<g.ms.length
  ·have gt:IntKind.i64.wrap ((j:Int)+1)=((j+1:Nat):Int):=cv (by omega);have hm:=hS.m g.ms[j] (List.getElem_mem T);generalize hc:g.ms[j]=m at*;obtain⟨hx,hw,hv,hu⟩:=hm;have e5:min j g.ms.length=j:=by omega
   obtain⟨D,hD⟩:∃D:AS,D=(B.set id3 (.cells 26 [.an 46 (g.ts.map (kE∘C3)) .aE g.ts.isEmpty,.an 56 (g.fs.map ny) .aE g.fs.isEmpty,.an 53 ((g.ms.map (jK∘yh)).take j) (.tok tM) (decide (j=0)),.sc (.int .i64 g.entry)])).set tM (.tok j):=⟨_,rfl⟩;have de:D Y=some (.cells 26 [.an 46 (g.ts.map kE) .aE g.tn,.an 56 (g.fs.map ny) .aE g.fn,.an 53 (g.ms.map jK) .aE g.mn,.sc (.int .i64 g.entry)]):=by rw[hD];simp[l,F,b4]
   have ec:D X=some (.cells 26 [.ai,.ai,.ai,.sc (.int .i64 0)]):=by rw[hD];simp[P,E,dl]
   have c9:D id3=some (.cells 26 [.an 46 (g.ts.map (kE∘C3)) .aE g.ts.isEmpty,.an 56 (g.fs.map ny) .aE g.fs.isEmpty,.an 53 ((g.ms.map (jK∘yh)).take j) (.tok tM) (decide (j=0)),.sc (.int .i64 g.entry)]):=by rw[hD];simp[n]
   have c8:D tM=some (.tok j):=by rw[hD];simp
   refine ae.weaken (σ':=D) ?_ (fun _ =>Wk.refl _) (by
    have e:(((g.ms.take j).map yh).map jK)=(g.ms.map (jK∘yh)).take j:=by simp[List.map_take]
    rw[hD,←e];exact lR _)
   refine gO dC (j5 T @hc @cY @de @aI) tI ?_;intro V G;have cc:¬Y=V:=nq de G;have ew:=aA cc;have b6:¬X=V:=nq ec G;have et:=aA b6;have K:¬id3=V:=nq c9 G;have J:=aA K;have Z:¬tM=V:=nq c8 G;have ap:=aA Z;refine gO dC tI tI ?_;intro a1 bs b3;have a5:=aA bs;have c7:¬Y=a1:=nq de b3;have gs:=aA c7;have c4:¬X=a1:=nq ec b3;have ge:=aA c4;have ck:¬id3=a1:=nq c9 b3;have gc:=aA ck;have d4:¬tM=a1:=nq c8 b3;have g2:=aA d4;refine gO (S:= [18]) dC (j2 bs a5) tI ?_;refine tell V [.sc (.string ⟨m.name.toArray⟩),.sc (.int .i64 m.owner),.sc (.int .i64 m.flags),.an 49 (m.ps.map cr) .aE m.ps.isEmpty,.sc (.int .i64 m.ret.kind),.sc (.int .i64 m.ret.index),.sc (.int .i64 m.ret.bt),.sc (.bool m.ret.ref),.an 49 (m.ls.map cr) .aE m.ln,.sc (.int .i64 m.max),.an 110 (m.code.map aJ) .aE m.cn,.an 158 (m.cls.map ic) .aE m.xn] D (by simp[a5];exact⟨rfl,rfl⟩) (by simp) (fun k hk=> ?_) (fun q_ e y H=> ?_) ?_
   ·match k,hk with
    |0,_ =>simp
    |1,_ =>simp
    |2,_ =>simp
    |3,_ =>simp
    |4,_ =>simp
    |5,_ =>simp
    |6,_ =>simp
    |7,_ =>simp
    |8,_ =>simp
    |9,_ =>simp
    |10,_ =>simp
    |11,_ =>simp
   ·by_cases e2:q_=a1
    ·subst e2;rw[b3]at H;cases H
    ·simp[AS.set,e,e2];exact H
   refine gO dC @aQ tI ?_;intro a2 be b2;have a0:=aA be;have f3:¬Y=a2:=nq de b2;have c3:¬X=a2:=nq ec b2;have f9:=aA c3;have cj:¬id3=a2:=nq c9 b2;have f8:=aA cj;have d3:¬tM=a2:=nq c8 b2;have g1:=aA d3;refine gO (S:= [21]) dC (j2 be a0) tI ?_;refine tell V [.sc (.string ⟨m.name.toArray⟩),.sc (.int .i64 m.owner),.sc (.int .i64 m.flags),.an 49 (m.ps.map cr) .aE m.ps.isEmpty,.sc (.int .i64 m.ret.kind),.sc (.int .i64 m.ret.index),.sc (.int .i64 m.ret.bt),.sc (.bool m.ret.ref),.an 49 (m.ls.map cr) .aE m.ls.isEmpty,.sc (.int .i64 m.max),.an 110 (m.code.map aJ) .aE m.cn,.an 158 (m.cls.map ic) .aE m.xn] D (by simp[a0];exact⟨rfl,rfl⟩) (by simp) (fun k hk=> ?_) (fun q_ e y H=> ?_) ?_
   ·match k,hk with
    |0,_ =>simp
    |1,_ =>simp
    |2,_ =>simp
    |3,_ =>simp
    |4,_ =>simp
    |5,_ =>simp
    |6,_ =>simp
    |7,_ =>simp
    |8,_ =>simp
    |9,_ =>simp
    |10,_ =>simp
    |11,_ =>simp
   ·by_cases e2:q_=a2
    ·subst e2;rw[b2]at H;cases H
    ·simp[AS.set,e,e2];exact H
   refine gO dC @aQ tI ?_;intro a3 bc b1;have av:=aA bc;have f0:¬Y=a3:=nq de b1;have c2:¬X=a3:=nq ec b1;have f7:=aA c2;have ci:¬id3=a3:=nq c9 b1;have f6:=aA ci;have dp:¬tM=a3:=nq c8 b1;have g0:=aA dp;refine gO (S:= [24]) dC (j2 bc av) tI ?_;refine tell V [.sc (.string ⟨m.name.toArray⟩),.sc (.int .i64 m.owner),.sc (.int .i64 m.flags),.an 49 (m.ps.map cr) .aE m.ps.isEmpty,.sc (.int .i64 m.ret.kind),.sc (.int .i64 m.ret.index),.sc (.int .i64 m.ret.bt),.sc (.bool m.ret.ref),.an 49 (m.ls.map cr) .aE m.ls.isEmpty,.sc (.int .i64 m.max),.an 110 (m.code.map aJ) .aE m.code.isEmpty,.an 158 (m.cls.map ic) .aE m.xn] D (by simp[av];exact⟨rfl,rfl⟩) (by simp) (fun k hk=> ?_) (fun q_ e y H=> ?_) ?_
   ·match k,hk with
    |0,_ =>simp
    |1,_ =>simp
    |2,_ =>simp
    |3,_ =>simp
    |4,_ =>simp
    |5,_ =>simp
    |6,_ =>simp
    |7,_ =>simp
    |8,_ =>simp
    |9,_ =>simp
    |10,_ =>simp
    |11,_ =>simp
   ·by_cases e2:q_=a3
    ·subst e2;rw[b1]at H;cases H
    ·simp[AS.set,e,e2];exact H
   refine gO dC @aQ tI ?_;intro a4 bb b0;have ar:=aA bb;have fz:¬Y=a4:=nq de b0;have c1:¬X=a4:=nq ec b0;have f5:=aA c1;have ch:¬id3=a4:=nq c9 b0;have f4:=aA ch;have dn:¬tM=a4:=nq c8 b0;have gS:=aA dn;refine gO (S:= [27]) dC (j2 bb ar) tI ?_;refine tell V [.sc (.string ⟨m.name.toArray⟩),.sc (.int .i64 m.owner),.sc (.int .i64 m.flags),.an 49 (m.ps.map cr) .aE m.ps.isEmpty,.sc (.int .i64 m.ret.kind),.sc (.int .i64 m.ret.index),.sc (.int .i64 m.ret.bt),.sc (.bool m.ret.ref),.an 49 (m.ls.map cr) .aE m.ls.isEmpty,.sc (.int .i64 m.max),.an 110 (m.code.map aJ) .aE m.code.isEmpty,.an 158 (m.cls.map ic) .aE m.cls.isEmpty] D (by simp[ar];exact⟨rfl,rfl⟩) (by simp) (fun k hk=> ?_) (fun q_ e y H=> ?_) ?_
   ·match k,hk with
    |0,_ =>simp
    |1,_ =>simp
    |2,_ =>simp
    |3,_ =>simp
    |4,_ =>simp
    |5,_ =>simp
    |6,_ =>simp
    |7,_ =>simp
    |8,_ =>simp
    |9,_ =>simp
    |10,_ =>simp
    |11,_ =>simp
   ·by_cases e2:q_=a4
    ·subst e2;rw[b0]at H;cases H
    ·simp[AS.set,e,e2];exact H
   refine gO dC (j8 @e5 @aQ n @gt K @c9 Z @c8) tI ?_;have d7:List.take (j+1) (List.map (jK∘yh) g.ms)=List.take j (List.map (jK∘yh) g.ms)++ [jK (yh m)]:=by rw[List.take_succ_eq_append_getElem (by simpa using T)];simp[hc]
   have hn:B V=none:=by rw[hD]at G;simpa[AS.set,ap,J]using G
   subst hD;refine aP.mk (j+1) (by(try dsimp only);omega) (gF tI) (by(try dsimp only);(intro j_ y_ d;by_cases U:j_=id3;(· subst U;simp[AS.set,n,d7,cY,yh]at d⊢;try first|exact d|(cases d;done));by_cases ek:j_=tM;(· subst ek;simp[AS.set,ab]at d⊢;try first|exact d|(cases d;done));by_cases ee:j_=V;(· subst ee;simp[AS.set,ap,J,hn]at d⊢;try first|exact d|(cases d;done));simp[AS.set,U,ek,ee]at d⊢;try exact d)) ?_;try dsimp only
   exact T
  ·obtain rfl:j=g.ms.length:=by omega
   refine gO dC (j2 (j7 T @aI P l @b4 @dl n) (j2 F E)) tI ?_;refine⟨lG ?_ ?_ ?_ (by simp[jO]),?_⟩
   ·simp[jO]
   ·simp[jO]
   ·cases h:g.ms<;>simp[jO,h]
   refine g3 _ fun j e1 e2 y H=> ?_;have e3:j≠id3:=nq hp H;have eo:j≠tM:=nq d9 H;simp[AS.set,e2,e3,eo,H]
open Rg (Cl ed cG gw)
open Sg (eN cN iN cD oz lk mC lp dW hU jf je rl eP)
open Pl (bX cg)
theorem Uz {α:Type}(l:List α) [Decidable (l= [])]:decide (l= [])=l.isEmpty:=by cases l<;>simp
def jh (g:bZ):LE:=PY (St.LY fun k=>St.jc (Rw.dr (kG g (nC g) (nY g)) (g.entry+1)) (bX (nX g)).1 (cg (eJ g)).1 (dJ g).co k) (g.entry+1) (kG g (nC g) (nY g))
theorem zU {g:bZ}(d:(bX (nX g)).2.2=0) {i:Nat}{s:By}(h:(nX g)[i]? =some s):pU (jh g).N (nC g i)= .ok s:=by have h1:=(Pl.Jf d h).1;have j:Pl.jM (jh g).N (nC g i)=(s,0):=h1;unfold pU;rw[j];rfl
theorem vI {g:bZ}(d:(cg (eJ g)).2.2=0) {i:Nat}{s:By}(h:(eJ g)[i]? =some s):j9 (jh g).B (nY g i)= .ok s:=by have h1:=Pl.Kl d h (by have:=Aw g s (List.mem_of_getElem? h);omega);have j:Pl.jz (jh g).B (nY g i)=(s,0):=h1;unfold j9;rw[j];rfl
theorem jP (g:bZ):(jh g).t0.length=g.ts.length:=by show(cI g (nC g)).length= _;simp[cI]
theorem vW (g:bZ):(jh g).t1.length=g.fs.length:=by show(cF g (nC g) (nY g)).length= _;simp[cF]
theorem vV (g:bZ):(jh g).t2.length=g.ms.length:=by show(cK g (nC g) (nY g)).length= _;simp[cK,dT]
theorem Ie (g:bZ):(jh g).t4.length=(dJ g).sp.length:=by show(dN g (nY g)).length= _;simp[dN]
theorem Ic (g:bZ):(jh g).t5.length=(dJ g).lo.length:=by show(eC g (nY g)).length= _;simp[eC]
theorem FC {t:Ty}{n:Int}(h:ud t n=true):bo t=true∧ ¬t.kind=1∧t.ref=false∧kZ t n=true∧dm t=true:=by unfold ud at h;rw[Bool.and_eq_true]at h;have h1:=h.1;unfold dm bE at h1;simp only[Bool.and_eq_true,Bool.not_eq_true',decide_eq_false_iff_not]at h1;exact⟨h1.1.1,h1.1.2,h1.2,h.2,h.1⟩
theorem vB {t:Ty}{n:Int}(h:ri t n=true):bE t=true∧kZ t n=true:=by unfold ri at h;rwa [Bool.and_eq_true]at h
theorem Fc {nt:Int}{i:Nat} :∀ {l:List Ty},(∀t∈l,kZ t nt=true)→oK nt i l= .ok ()
 |[],_ =>rfl
 |t::r,h=>by simp only[oK];rw[h t (List.mem_cons_self ..),ns];exact Fc fun y d=>h y (List.mem_cons_of_mem _ d)
theorem Fb {nt:Int}{i:Nat} :∀ {l:List Ty},(∀t∈l,kZ t nt=true)→oJ nt i l= .ok ()
 |[],_ =>rfl
 |t::r,h=>by simp only[oJ];rw[h t (List.mem_cons_self ..),ns];exact Fb fun y d=>h y (List.mem_cons_of_mem _ d)
theorem Jh {e:LE}{sp:List Ty}{lo:List (List Ty)}{d:List Int}(rows:List (List Int)) (out:List Mt) (hl:rows.length=out.length) (key:∀j (a:j<rows.length) (b:j<out.length),GR e sp lo d (0+j) rows[j]= .ok out[j]):mN e sp lo d [] 0 rows= .ok out:=
 lK (F:=mN e sp lo d) (step:=GR e sp lo d) (fun _ _ =>rfl) (fun _ _ _ _ =>rfl) rows out [] 0 hl key
theorem JX {N B:By}{nt:Int}{d:List Int}(rows:List (List Int)) (out:List Fd) (hl:rows.length=out.length) (key:∀j (a:j<rows.length) (b:j<out.length),Jw N B nt d (0+j) rows[j]= .ok out[j]):po N B nt d [] 0 rows= .ok out:=
 lK (F:=po N B nt d) (step:=Jw N B nt d) (fun _ _ =>rfl) (fun _ _ _ _ =>rfl) rows out [] 0 hl key
variable {g:bZ}
theorem IE (h:HJ g) (v:(cg (eJ g)).2.2=0):iK (jh g).B (jh g).t0.length [] 0 (jh g).t4= .ok (dJ g).sp:=by
 have l:=(zA h g.ms.length).1;rw[←EI]at l;refine lK (F:=iK (jh g).B (jh g).t0.length) (step:=fun i r=>cM (j9 (jh g).B (ia r 0)) fun b=>dj (decide (Lk (jf b)=0)) (Lk (jf b)) 4 i (dj (kZ (iN (jf b)) (jh g).t0.length) 5 4 i (.ok (iN (jf b)))))
  (fun _ _ =>rfl) (fun acc i r rs=>by simp only[iK,iS,iT,dc]) (jh g).t4 (dJ g).sp [] 0 (Ie g) fun j a b=> ?_
 obtain⟨d,u,q,o,_⟩:=FC (l _ (List.getElem_mem b));have D:ia (jh g).t4[j] 0=nY g (g.fs.length+g.ms.length+j):=by show ia (dN g (nY g))[j] 0= _;simp[dN,qh,ia]
 have n:=vI v (R8 b);have A:cN (mC (dJ g).sp[j])=eN (dJ g).sp[j]:=by unfold mC;rw[if_pos d];rfl
 rw[A]at n;have y:=Sg.FB d;simp only[D,n,dc,y];have w:Lk (.ok (dJ g).sp[j])=0:=by simp[Lk,cD,iN,u,q]
 rw[w,jP];simp only[iN,o];rfl
theorem Lv (h:HJ g) (u:(cg (eJ g)).2.2=0):k9 (jh g).B (jh g).t0.length [] 0 (jh g).t5= .ok (dJ g).lo:=by
 have n:=(zA h g.ms.length).2;rw[←EI]at n;refine lK (F:=k9 (jh g).B (jh g).t0.length) (step:=fun i r=>cM (j9 (jh g).B (ia r 0)) fun b=>dj (decide (cD (je b)=0)) (cD (je b)) 5 i (cM (oK (jh g).t0.length i (oz (je b))) fun _ => .ok (oz (je b))))
  (fun _ _ =>rfl) (fun acc i r rs=>by simp only[k9,iS,iT,dc]) (jh g).t5 (dJ g).lo [] 0 (Ic g) fun j a b=> ?_
 obtain⟨q,l⟩:=n _ (List.getElem_mem b);have d:∀t∈(dJ g).lo[j],bE t=true:=fun t ht=>(vB (l t ht)).1;have y:ia (jh g).t5[j] 0=nY g (g.fs.length+g.ms.length+(dJ g).sp.length+j):=by show ia (eC g (nY g))[j] 0= _;simp[eC,qh,ia]
 have o:=vI u (Sa b);have w:cN (dW (dJ g).lo[j])=Sg.HO (dJ g).lo[j]:=by unfold dW;rw[if_neg (by omega),if_pos (by rw[List.all_eq_true];exact d)];rfl
 rw[w]at o;have v:=Sg.OS q d;simp only[y,o,dc,v,cD,oz];rw[jP,Fc fun t ht=>(vB (l t ht)).2];rfl
theorem Hl {x:Int}(h0: -1≤x) (h1:x≤1000):(bK (4*(x+1))).2.2=0∧(bK (4*(x+1))).1≠4∧(bK (4*(x+1))).2.1=x+1:=by
 unfold bK;by_cases e:4*(x+1)=0
 ·rw[if_pos e];exact⟨rfl,(by decide:(-1:Int)≠4),by show(0:Int)=x+1;omega⟩
 ·rw[if_neg e,if_neg (by omega),if_pos (by omega)];exact⟨rfl,(by decide:(0:Int)≠4),by show 4*(x+1)/4=x+1;omega⟩
theorem Of (h:HJ g) (n:(bX (nX g)).2.2=0):mM (jh g).N (jh g).t0.length [] 0 (jh g).t0= .ok (g.ts.map fun t=>zu t []):=by
 refine lK (F:=mM (jh g).N (jh g).t0.length) (step:=Ju (jh g).N (jh g).t0.length) (fun _ _ =>rfl) (fun acc i r rs=>rfl) (jh g).t0 (g.ts.map fun t=>zu t []) [] 0 (by rw[jP];simp) fun j a b=> ?_;have l:j<g.ts.length:=by simpa using b
 have d:=h.t _ (List.getElem_mem l);have o:=h.ts;have u:(jh g).t0[j]=ru g (nC g) j g.ts[j]:=by show(cI g (nC g))[j]'(by simpa[cI]using l)= _;simp[cI]
 have q:=zU n (OM l);obtain⟨y,w,v⟩:=Hl d.ext.1 (by have:=d.ext.2;omega);rw[u,jP];simp only[Nat.zero_add,List.getElem_map];unfold Ju ru;simp only[ia,List.getD_cons_zero,List.getD_cons_succ,q,dc,y,v];have d1:decide (g.ts[j].flags≤31)=true:=by rw[decide_eq_true_eq];exact d.fl.2
 have d2:decide (True∧(bK (4*(g.ts[j].ext+1))).1≠4∧g.ts[j].ext+1≤(g.ts.length:Int))=true:=by rw[decide_eq_true_eq];exact⟨trivial,w,by have:=d.ext.2;omega⟩
 rw[d1,d2,ns,ns,show g.ts[j].ext+1-1=g.ts[j].ext by omega];rfl
theorem ID (h:HJ g) (d:(bX (nX g)).2.2=0):lv (jh g)= .ok (g.ts.map C3):=by unfold lv;rw[Of h d,dc];have hf:=uI (n:=g.ts.length) g.ts [] 0 (by simp) fun t ht=>⟨(h.t t ht).VO,(h.t t ht).fc⟩;simp only[List.length_nil,Nat.zero_add,List.nil_append]at hf;rw[jP];have i:(jh g).t3=(g.ts.mapIdx fun j t=>gg j t).flatten:=rfl;rw[i,hf];congr 2;funext t;simp[zu,C3,Uz]
theorem IF (c:Nat) (d:List Int) (n:d.Pairwise (· ≤ ·)) (i:∀x∈d,0≤x∧x<(g.ts.length:Int)) (o:∀j (a:j<g.ts.length),ia (ru g (nC g) j g.ts[j]) c=fq d j):
 fU c d.length (jh g).t0.length [] 1 0 (jh g).t0= .ok d:=by
 have h1:=wU (c:=c) n i (jh g).t0 0 (by rw[jP];simp) fun j a=>by
  have h:j<g.ts.length:=by rw[jP]at a;exact a
  have u:(jh g).t0[j]=ru g (nC g) j g.ts[j]:=by show(cI g (nC g))[j]'(by simpa[cI]using h)= _;simp[cI]
  rw[u,o j h,Nat.zero_add]
 have q:dS d (((0:Nat):Int)-1)= []:=vS fun x l=>by have:=i x l;omega
 rw[q]at h1;rw[jP];exact h1
theorem Ms {t:Ty}(h:dm t=true) (d:bo t=true):rl (6::eN t)= .ok t:=by unfold rl;simp only[if_true,Sg.FB d,h]
theorem Gl (h:HJ g) (v:(bX (nX g)).2.2=0) (w:(cg (eJ g)).2.2=0):mf (jh g)= .ok g.fs:=by
 unfold mf;have h0:(decide ((jh g).t1= [])||decide (0<(jh g).t0.length))=true:=by
  rw[Bool.or_eq_true,decide_eq_true_eq,decide_eq_true_eq,jP];by_cases hf:g.fs.length=0
  ·left;rw[←List.length_eq_zero_iff,vW];exact hf
  ·right;have:=(h.f _ (List.getElem_mem (show 0<g.fs.length by omega))).2.1;have:=(h.f _ (List.getElem_mem (show 0<g.fs.length by omega))).1;omega
 rw[h0,ns];have l:=IF (g:=g) 3 (g.fs.map (·.owner)) h.fo (fun x u=>by obtain⟨f,hf,rfl⟩:=List.mem_map.1 u;have:=h.f f hf;exact⟨this.1,this.2.1⟩) (fun j a=>by simp only[ia,ru,List.getD_cons_zero,List.getD_cons_succ]);rw[List.length_map]at l;rw[vW,l,dc];refine JX (jh g).t1 g.fs (vW g) fun j a d=> ?_;have y:=h.f _ (List.getElem_mem d);obtain⟨q,H,G,o,i⟩:=FC y.2.2.2;have F:(jh g).t1[j]=uR g (nC g) (nY g) j g.fs[j]:=by show(cF g (nC g) (nY g))[j]'(by simpa[cF]using d)= _;simp[cF]
 have E:=zU v (OP d);have n:=vI w (Sb d);have D:cN (lp g.fs[j].ty)=6::eN g.fs[j].ty:=by unfold lp;rw[if_pos i];rfl
 rw[D]at n;have A:ia (g.fs.map (·.owner)) j=g.fs[j].owner:=by simp[ia,List.getD_eq_getElem?_getD,d]
 rw[F,Nat.zero_add,jP];unfold Jw uR;simp only[A];simp only[ia,List.getD_cons_zero,List.getD_cons_succ,E,n,dc,Ms i q,cD,iN,o];have d1:decide ((if g.fs[j].stat=true then(1:Int)else 0)≤1)=true:=by rw[decide_eq_true_eq];split<;>omega
 have d2:decide ((if g.fs[j].stat=true then(1:Int)else 0)=1)=g.fs[j].stat:=by cases g.fs[j].stat<;>rfl
 rw[d1,d2];rfl
theorem Dq (h:HJ g) (G:∀m∈g.ms,∀x∈m.code,Cd.fY x) (E:(bX (nX g)).2.2=0) (F:(cg (eJ g)).2.2=0):jZ (jh g) (dJ g).sp (dJ g).lo= .ok (g.ms.map yh):=by
 unfold jZ;have h0:(decide ((jh g).t2= [])||decide (0<(jh g).t0.length))=true:=by
  rw[Bool.or_eq_true,decide_eq_true_eq,decide_eq_true_eq,jP];by_cases hf:g.ms.length=0
  ·left;rw[←List.length_eq_zero_iff,vV];exact hf
  ·right;have:=(h.m _ (List.getElem_mem (show 0<g.ms.length by omega))).2.1;have:=(h.m _ (List.getElem_mem (show 0<g.ms.length by omega))).1;omega
 rw[h0,ns];have v:=IF (g:=g) 4 (g.ms.map (·.owner)) h.mo (fun x D=>by obtain⟨f,hf,rfl⟩:=List.mem_map.1 D;have:=h.m f hf;exact⟨this.1,this.2.1⟩) (fun j a=>by simp only[ia,ru,List.getD_cons_zero,List.getD_cons_succ]);rw[List.length_map]at v;rw[vV,v,dc];have key:∀(j:Nat) (a:j<(jh g).t2.length) (b:j<(g.ms.map yh).length),GR (jh g) (dJ g).sp (dJ g).lo (g.ms.map (·.owner)) (0+j) (jh g).t2[j]= .ok (g.ms.map yh)[j]:=by
  intro j a b;have d:j<g.ms.length:=by simpa using b
  have i:=(h.m _ (List.getElem_mem d)).2.2;obtain⟨s1,s2⟩:=Lg d;have hl:=(vY h g.ms.length).1;rw[←EI]at hl;have y:=Ii s2 (by omega) i (G _ (List.getElem_mem d)) j;obtain⟨u,A,q⟩:=Ih s2;generalize (qB (tm g j) g.ms[j]).2=p at s1 y u A q;have O:(jh g).t2[j]=sk g (nC g) (nY g) j (g.ms[j],p):=by
   have o:j<(dM od g.ms).2.length:=by rw[dT];exact d
   have l:(dM od g.ms).2[j]=p:=by rw[List.getElem?_eq_getElem o]at s1;exact Option.some.inj s1
   show(cK g (nC g) (nY g))[j]'(by simpa[cK,dT]using d)= _;simp[cK,l]
  have M:=zU E (ON d);have w:=vI F (R9 d);have ha:dB g.ms[j].ret=true∧kZ g.ms[j].ret g.ts.length=true:=by have:=i.ret;unfold HC at this;rwa [Bool.and_eq_true]at this
  have l:∀t∈g.ms[j].ps,bE t=true:=fun t ht=>(vB (i.pA t ht)).1;have L:cN (hU (CY g.ms[j]))=Sg.ER (CY g.ms[j]):=by unfold hU;rw[if_neg (by have:=i.ps;simp only[CY];omega),if_pos (by rw[Bool.and_eq_true,List.all_eq_true];exact⟨l,ha.1⟩)];rfl
  rw[L]at w;have J:eP (Sg.ER (CY g.ms[j]))= .ok (CY g.ms[j]):=Sg.N6 i.ps l ha.1;have K:ia (g.ms.map (·.owner)) j=g.ms[j].owner:=by simp[ia,List.getD_eq_getElem?_getD,d]
  have I:oJ (g.ts.length:Int) j (g.ms[j].ps++ [g.ms[j].ret])= .ok ():=Fb fun t ht=>by
   rcases List.mem_append.1 ht with ht|ht
   ·exact(vB (i.pA t ht)).2
   ·rw[List.mem_singleton.1 ht];exact ha.2
  have H:(jh g).C=(dJ g).co:=rfl;rw[O,Nat.zero_add];unfold GR sk;simp only[K];simp only[ia,List.getD_cons_zero,List.getD_cons_succ,M,w,dc,J,cD,lk,jP,vW,vV,H,y,u];have d1:(decide (g.ms[j].flags≤31)&&decide (g.ms[j].max≤12))=true:=by rw[Bool.and_eq_true,decide_eq_true_eq,decide_eq_true_eq];exact⟨i.fl.2,i.mx.2⟩
  have d2:((CY g.ms[j]).this==decide (g.ms[j].flags%2=0))=true:=by simp[CY]
  have d3:decide (p.2≤((dJ g).lo.length:Int))=true:=by rw[decide_eq_true_eq];exact q
  have d4:(CY g.ms[j]).ps=g.ms[j].ps:=rfl;have d5:(CY g.ms[j]).ret=g.ms[j].ret:=rfl;rw[d1,d2,d3,d4,d5,I];simp only[dc,ns,decide_true,List.getElem_map,yh,Uz]
 have n:(jh g).t2.length=(g.ms.map yh).length:=by rw[vV];simp
 exact Jh _ _ n key
theorem Po {e:LE}(h0:e.t0.length≤32) (h1:e.t1.length≤64) (o:e.t2.length≤64) (l:e.t3.length≤128) (j:e.t4.length≤16383) (i:e.t5.length≤64):pq 0 (vg e)= .ok ():=by
 simp only[vg,pq];have d:∀ {n:Nat} {m:Int},(n:Int)≤m→decide ((n:Int)≤m)=true:=fun h=>by rw[decide_eq_true_eq];exact h
 rw[d (by omega),d (by omega),d (by omega),d (by omega),d (by omega),d (by omega)];rfl
theorem Og (h:HJ g) (j:rW g) (l:∀m∈g.ms,∀x∈m.code,Cd.fY x) (i:(bX (nX g)).2.2=0) (d:(cg (eJ g)).2.2=0):wW (jh g)= .ok (jO g):=by
 have hl:=vY h g.ms.length;rw[←EI]at hl;have n:(jh g).t3.length≤128:=by have h1:=uf j g.ts.length;have o:(du g).take g.ts.length=du g:=List.take_of_length_le (by simp[du]);rw[o]at h1;have:=h.ts;show((du g).flatten).length≤128;omega
 unfold wW pT;rw[Po (by rw[jP];exact h.ts) (by rw[vW];exact h.fs) (by rw[vV];exact h.ms) n (by rw[Ie];omega) (by rw[Ic];exact hl.2)];simp only[dc,IE h d,Lv h d,ID h i,Gl h i d,Dq h l i d];have he:(jh g).en=g.entry+1:=rfl;have:=h.en;rw[he,if_neg (by simp;omega)];simp only[jO,Uz,show g.entry+1-1=g.entry by omega];simp
theorem GQ (v:DY g=true) (u:rW g) (y:∀m∈g.ms,∀x∈m.code,Cd.fY x) (d:(cQ g).2=0):BW (cQ g).1= .ok (jO g):=by
 have h:=vE.1 v;unfold cQ at d⊢;rw[if_neg (by rw[v];simp)]at d⊢;by_cases i:(bX (nX g)).2.2=0;rotate_left
 ·rw[if_pos i]at d;exact absurd d i
 rw[if_neg (by rw[i];simp)]at d⊢;by_cases j:(cg (eJ g)).2.2=0;rotate_left
 ·rw[if_pos j]at d;exact absurd d j
 rw[if_neg (by rw[j];simp)]at d⊢;by_cases hw:Rw.okW (kG g (nC g) (nY g)) (g.entry+1)=false
 ·rw[if_pos hw]at d;simp at d
 rw[if_neg hw]at d⊢;unfold uK at d⊢;split at d
 ·simp at d
 rename_i q;rw[if_neg q];simp only[not_or]at q;obtain⟨E,D,j2,j3,j4⟩:=q;have n:=St.Dg (s:=fun k=>St.jc (Rw.dr (kG g (nC g) (nY g)) (g.entry+1)) (bX (nX g)).1 (cg (eJ g)).1 (dJ g).co k) (fun k w=>by
  match k,w with
  |0,_ =>simp only[St.jc];omega
  |1,_ =>simp only[St.jc];omega
  |2,_ =>simp only[St.jc];omega
  |3,_ =>simp only[St.jc];omega) (by omega)
 have o:=Rw.Dv (R:=kG g (nC g) (nY g)) (en:=g.entry+1) (pF g _ _) (by simpa using hw) (fun l hl=>by have:=vU u (nC g) (nY g) l hl;omega);unfold BW;rw[n];simp only;rw[if_neg (by simp)];have A:(EM (St.LY fun k=>St.jc (Rw.dr (kG g (nC g) (nY g)) (g.entry+1)) (bX (nX g)).1 (cg (eJ g)).1 (dJ g).co k) 0).1=Rw.dr (kG g (nC g) (nY g)) (g.entry+1):=rfl;rw[A,o];exact Og h u y i j
end Im
end Go.Proofs.YtknalmoackcpbaaGreat
namespace Go.Proofs.YtknalmoackcpbaaGreat
namespace Im
open Go Go.AW
theorem AP (S:List Nat):aH Tryz.prog [(6,(.step 0 (.step 1 (.step 2 (.step 4 (.step 5 (.step 6 (.read 3 (.read 7 (.step 8 .done))))))))))] S:=mixed
theorem sY (S:List Nat):aH Tryz.prog [(6,(.step 0 (.step 2 (.step 5 (.step 7 (.read 1 (.step 3 (.read 4 (.read 6 (.step 8 (.read 9 (.step 10 .done))))))))))))] S:=mixed
theorem jD (S:List Nat):aH Tryz.prog [(13,(.step 0 (.step 2 (.step 5 (.step 7 (.read 1 (.step 3 (.read 4 (.read 6 (.step 8 (.read 9 (.step 10 .done)))))))))))),(18,(.step 0 (.step 2 (.step 5 (.step 7 (.read 1 (.step 3 (.read 4 (.read 6 (.step 8 (.read 9 (.alt 10 (.step 11 .done) .none))))))))))))] S:=mixed
open Rg (Cl ic aW)
theorem Vz:Program.stoodInHeld Tryz.prog 110=false:=by kernel_rfl
@[simp] theorem VT:Program.eqGuardType Tryz.prog Tryz.prog.depth 110=false:=by kernel_rfl
theorem VC:Program.stoodInHeld Tryz.prog 158=false:=by kernel_rfl
@[simp] theorem VW:Program.eqGuardType Tryz.prog Tryz.prog.depth 158=false:=by kernel_rfl
theorem VB:Program.stoodInHeld Tryz.prog 56=false:=by kernel_rfl
@[simp] theorem VV:Program.eqGuardType Tryz.prog Tryz.prog.depth 56=false:=by kernel_rfl
theorem Pf (a b k i d:Int) (r:Bool):kg Tryz.prog 8 110 (.agg [.sc (.int .i64 a),.sc (.int .i64 b),.sc (.int .i64 k),.sc (.int .i64 i),.sc (.int .i64 d),.sc (.bool r)]) (.agg [.sc (.int .i64 a),.sc (.int .i64 b),.sc (.int .i64 k),.sc (.int .i64 i),.sc (.int .i64 d),.sc (.bool r)])=some true:=by simp[kg,pY,Tryz.underlying110,Tryz.underlying49,Tryz.underlying3,Tryz.underlying2,Tryz.underlying4]
theorem Ph (a b c d e f k i x:Int) (r:Bool):kg Tryz.prog 8 158 (.agg [.sc (.int .i64 a),.sc (.int .i64 b),.sc (.int .i64 c),.sc (.int .i64 d),.sc (.int .i64 e),.sc (.int .i64 f),.sc (.int .i64 k),.sc (.int .i64 i),.sc (.int .i64 x),.sc (.bool r)]) (.agg [.sc (.int .i64 a),.sc (.int .i64 b),.sc (.int .i64 c),.sc (.int .i64 d),.sc (.int .i64 e),.sc (.int .i64 f),.sc (.int .i64 k),.sc (.int .i64 i),.sc (.int .i64 x),.sc (.bool r)])=some true:=by simp[kg,pY,Tryz.underlying158,Tryz.underlying49,Tryz.underlying3,Tryz.underlying4]
theorem Pg (s:ByteArray) (o k i d:Int) (r st:Bool):kg Tryz.prog 8 56 (.agg [.sc (.string s),.sc (.int .i64 o),.sc (.int .i64 k),.sc (.int .i64 i),.sc (.int .i64 d),.sc (.bool r),.sc (.bool st)]) (.agg [.sc (.string s),.sc (.int .i64 o),.sc (.int .i64 k),.sc (.int .i64 i),.sc (.int .i64 d),.sc (.bool r),.sc (.bool st)])=some true:=by simp[kg,pY,Tryz.underlying56,Tryz.underlying49,Tryz.underlying9,Tryz.underlying3,Tryz.underlying4]
theorem Mh (l:List db) (o n:cL) (n1 n2:Bool) (hl:l.length≤140737488355328) (σ:AS):
 aa Tryz.prog 96 [.an 110 (l.map aJ) o n1,.an 110 (l.map aJ) n n2] σ (ao (.sc (.bool true)) σ) No:=by
 refine aa.ob Tryz.func96 ?_;refine gO AP tI tI ?_;refine ae.bp (α:=(Nat)) (0) (fun i=>l.length-i) (fun i=>i≤l.length) [(0,?_),(1,?_)] (fun i=> [(5,.sc (.int .i64 i))]) (fun i=>σ) ?_ ?_ ?_ ?_;rotate_left 2
 ·exact gF tI
 ·exact gT
 ·exact Nat.zero_le _
 intro i j;try dsimp only at j⊢
 obtain u:=j;simp only[gj];by_cases d:i<l.length
 ·have h:IntKind.i64.wrap ((i:Int)+1)=((i+1:Nat):Int):=cv (by omega);generalize q:l[i]=x at*;refine gO AP (j6 d @q @iw @Pf @aI @h) tI ?_;refine aP.mk (i+1) (by(try dsimp only);omega) (gF tI) gT ?_;try dsimp only
  exact d
 ·exact gE AP (j2 d @aI) tI;all_goals (repeat' (with_reducible apply j2))
  all_goals exact gL tI
theorem Lm (j D:Mt) (he:yh j=yh D) (h1:j.ps.length≤1000000) (G:j.ls.length≤1000000) (V:j.code.length≤1000000) (U:j.cls.length≤1000000) (σ:AS):
 aa Tryz.prog 42 [jK j,jK D] σ (ao (.sc (.bool true)) σ) No:=by
 obtain⟨nm,H,fl,ps,pn,rt,ls,ln,mx,co,cn,n,xn⟩:=j;obtain⟨O,M,X,L,q,K,Q,u,P,Y,y,Z,A⟩:=D;simp only[yh,Mt.mk.injEq]at he;obtain⟨rfl,rfl,rfl,rfl,_,rfl,rfl,_,rfl,rfl,_,rfl,_⟩:=he;simp only at h1 G V U;have I:=fun σ=>Sg.v9 ps ps .aE .aE pn q h1 h1 σ;have w:=fun σ=>Sg.v9 ls ls .aE .aE ln u G G σ;have T:=fun σ=>Mh co .aE .aE cn y (by omega) σ;simp only[decide_true]at I w;simp only[cY];refine aa.ob Tryz.func42 ?_;refine gO sY tI tI ?_;intro id J;refine gO sY tI tI ?_;intro E h F;have d:=aA h;refine gO sY d tI ?_;refine ae.bp (α:=(Nat)) (0) (fun i=>n.length-i) (fun i=>i≤n.length) [(2,?_),(3,?_)] (fun i=> [(5,.sc (.int .i64 i))]) (fun i=>(σ.set id (.cells 53 (jK ⟨nm,H,fl,ps,pn,rt,ls,ln,mx,co,cn,n,xn⟩).cells)).set E (.cells 53 (jK ⟨nm,H,fl,ps,q,rt,ls,u,mx,co,y,n,A⟩).cells)) ?_ ?_ ?_ ?_;rotate_left 2
 ·exact gF tI
 ·exact gT
 ·exact Nat.zero_le _
 intro i v;try dsimp only at v⊢
 obtain hi:=v;simp only[gj];by_cases l:i<n.length
 ·have o:IntKind.i64.wrap ((i:Int)+1)=((i+1:Nat):Int):=cv (by omega);generalize S:n[i]=x at*;refine gO sY (j8 l @S d @cY @aW @Ph @aI @o) tI ?_;refine aP.mk (i+1) (by(try dsimp only);omega) (gF tI) gT ?_;try dsimp only
  exact l
 ·refine gO sY (j4 l d @cY @aI) (j3 @I @w @T) ?_;all_goals (repeat' (with_reducible apply j2))
  all_goals exact gL tI
structure V3 (g:bZ):Prop where
 ts:g.ts.length≤1000000
 fs:g.fs.length≤1000000
 ms:g.ms.length≤1000000
 t:∀t∈g.ts,t.aZ.length≤1000000
 m:∀m∈g.ms,m.ps.length≤1000000∧m.ls.length≤1000000∧m.code.length≤1000000∧m.cls.length≤1000000
theorem Jm {α β:Type}{f:α→β}{l m:List α}(h:l.map f=m.map f) {i:Nat}(d:i<l.length):∃j:i<m.length,f l[i]=f m[i]:=by
 have hl:l.length=m.length:=by have:=congrArg List.length h;simpa using this
 refine⟨by omega,?_⟩;have h1:(l.map f)[i]? =(m.map f)[i]? :=by rw[h]
 simpa[List.getElem?_map,d,show i<m.length by omega]using h1
theorem vt (V g2:bZ) (he:jO V=jO g2) (hS:V3 V) (σ:AS):aa Tryz.prog 15 [pD V,pD g2] σ (ao (.sc (.bool true)) σ) No:=by
 obtain⟨ts,tn,fs,fn,ms,mn,en⟩:=V;obtain⟨h,y,be,E,n,A,ca⟩:=g2;simp only[jO,bZ.mk.injEq]at he;obtain⟨hT,_,rfl,_,hM,_,rfl⟩:=he;have a9:ts.length=h.length:=by have:=congrArg List.length hT;simpa using this
 have bc:ms.length=n.length:=by have:=congrArg List.length hM;simpa using this
 have am:((ts.length:Int)=h.length)=True:=by simp;omega
 have ap:((ms.length:Int)=n.length)=True:=by simp;omega
 obtain⟨b1,b2,b3,b4,b5⟩:=hS;simp only at b1 b2 b3 b4 b5;simp only[b9];refine aa.ob Tryz.func15 ?_;refine gO jD tI tI ?_;intro id U;refine gO jD tI tI ?_;intro w v G;have u:=aA v;have k1:((σ.set id (.cells 26 [.an 46 (ts.map kE) .aE tn,.an 56 (fs.map ny) .aE fn,.an 53 (ms.map jK) .aE mn,.sc (.int .i64 en)])).set w (.cells 26 [.an 46 (h.map kE) .aE y,.an 56 (fs.map ny) .aE E,.an 53 (n.map jK) .aE A,.sc (.int .i64 en)])) id=some (.cells 26 [.an 46 (ts.map kE) .aE tn,.an 56 (fs.map ny) .aE fn,.an 53 (ms.map jK) .aE mn,.sc (.int .i64 en)]):=by rw[AS.ad _ _ u,AS.aj]
 have M:((σ.set id (.cells 26 [.an 46 (ts.map kE) .aE tn,.an 56 (fs.map ny) .aE fn,.an 53 (ms.map jK) .aE mn,.sc (.int .i64 en)])).set w (.cells 26 [.an 46 (h.map kE) .aE y,.an 56 (fs.map ny) .aE E,.an 53 (n.map jK) .aE A,.sc (.int .i64 en)])) w=some (.cells 26 [.an 46 (h.map kE) .aE y,.an 56 (fs.map ny) .aE E,.an 53 (n.map jK) .aE A,.sc (.int .i64 en)]):=AS.aj _ _ _;have hle:AS.le σ ((σ.set id (.cells 26 [.an 46 (ts.map kE) .aE tn,.an 56 (fs.map ny) .aE fn,.an 53 (ms.map jK) .aE mn,.sc (.int .i64 en)])).set w (.cells 26 [.an 46 (h.map kE) .aE y,.an 56 (fs.map ny) .aE E,.an 53 (n.map jK) .aE A,.sc (.int .i64 en)])):=AS.ah (AS.ah (lR _) U) G;generalize ((σ.set id (.cells 26 [.an 46 (ts.map kE) .aE tn,.an 56 (fs.map ny) .aE fn,.an 53 (ms.map jK) .aE mn,.sc (.int .i64 en)])).set w (.cells 26 [.an 46 (h.map kE) .aE y,.an 56 (fs.map ny) .aE E,.an 53 (n.map jK) .aE A,.sc (.int .i64 en)]))=S at*;refine gO jD (j4 @k1 @M @am @ap) tI ?_;refine ae.bp (α:=(Nat)) (0) (fun i=>ts.length-i) (fun i=>i≤ts.length) [(2,?_),(3,?_)] (fun i=> [(5,.sc (.int .i64 i))]) (fun i=>S) ?_ ?_ ?_ ?_;rotate_left 2
 ·exact gF tI
 ·exact gT
 ·exact Nat.zero_le _
 intro i o;try dsimp only at o⊢
 obtain hi:=o;simp only[gj];by_cases d:i<ts.length
 ·obtain⟨I,H⟩:=Jm hT d;have L:IntKind.i64.wrap ((i:Int)+1)=((i+1:Nat):Int):=cv (by omega);have hg:ts[i]? =some ts[i]:=List.getElem?_eq_getElem d;have al:h[i]? =some h[i]:=List.getElem?_eq_getElem I;have hf:=b4 _ (List.getElem_mem d);have D:((i:Int)<ts.length)=True:=by simp;omega
  generalize ab:ts[i]=t1 at*;generalize Z:h[i]=t2 at*;obtain⟨nm,fl,ex,fa,fb⟩:=t1;obtain⟨a7,bs,b6,b0,a0⟩:=t2;simp only[C3,TD.mk.injEq]at H;obtain⟨rfl,rfl,rfl,rfl,_⟩:=H;simp only at hf;have P:=fun σ=>Pl.Is fa fa .aE .aE fb a0 (by omega) (by omega) σ;simp only[decide_true]at P;have Q:∀l:List Int,l.map iV=l.map aV:=fun l=>rfl;refine gO jD (j6 @k1 D d @ab @eu @Q) tI ?_;intro id3 F;have Y:¬w=id3:=nq M F;refine gO jD (j7 @M @Y @I @Z @eu @Q @aI) tI ?_;intro a8 ar T;have X:=aA ar;refine gO jD (j2 @X @L) @P ?_;refine aP.mk (i+1) (by(try dsimp only);omega) (gF tI) (by(try dsimp only);exact AS.ah (AS.ah (lR _) F) T) ?_;try dsimp only
  exact d
 ·have D:((i:Int)<ts.length)=False:=by simp;omega
  refine gO jD (j2 @k1 D) tI ?_;refine ae.bp (α:=(Nat)) (0) (fun j=>fs.length-j) (fun j=>j≤fs.length) [(2,?_),(3,?_)] (fun j=> [(8,.sc (.int .i64 j))]) (fun j=>S) ?_ ?_ ?_ ?_;rotate_left 2
  ·exact gF tI
  ·exact gT
  ·exact Nat.zero_le _
  intro j o;try dsimp only at o⊢
  obtain I:=o;simp only[gj];by_cases d:j<fs.length
  ·have K:IntKind.i64.wrap ((j:Int)+1)=((j+1:Nat):Int):=cv (by omega);have hg:fs[j]? =some fs[j]:=List.getElem?_eq_getElem d;have D:((j:Int)<fs.length)=True:=by simp;omega
   generalize H:fs[j]=x at*;refine gO jD (j8 @k1 @M D d @H @kD @Pg @K) tI ?_;refine aP.mk (j+1) (by(try dsimp only);omega) (gF tI) gT ?_;try dsimp only
   exact d
  ·have D:((j:Int)<fs.length)=False:=by simp;omega
   refine gO jD (j2 @k1 D) tI ?_;refine ae.bp (α:=(Nat)) (0) (fun q=>ms.length-q) (fun q=>q≤ms.length) [(2,?_),(3,?_)] (fun q=> [(9,.sc (.int .i64 q))]) (fun q=>S) ?_ ?_ ?_ ?_;rotate_left 2
   ·exact gF tI
   ·exact gT
   ·exact Nat.zero_le _
   intro q o;try dsimp only at o⊢
   obtain hq:=o;simp only[gj];by_cases d:q<ms.length
   ·obtain⟨I,H⟩:=Jm hM d;have J:IntKind.i64.wrap ((q:Int)+1)=((q+1:Nat):Int):=cv (by omega);have hg:ms[q]? =some ms[q]:=List.getElem?_eq_getElem d;have al:n[q]? =some n[q]:=List.getElem?_eq_getElem I;have D:((q:Int)<ms.length)=True:=by simp;omega
    obtain⟨c1,c2,c3,c4⟩:=b5 _ (List.getElem_mem d);have O:=fun σ=>Lm _ _ H c1 c2 c3 c4 σ;simp only[cY]at O;generalize af:ms[q]=m1 at*;generalize ac:n[q]=m2 at*;refine gO jD (j2 (j7 @k1 @M D d @I @af @ac) (j3 @cY @aI @J)) @O ?_;refine aP.mk (q+1) (by(try dsimp only);omega) (gF tI) gT ?_;try dsimp only
    exact d
   ·have D:((q:Int)<ms.length)=False:=by simp;omega
    refine gO jD (j2 @k1 D) tI ?_;exact hle
theorem FZ (S:List Nat):aH Tryz.prog [] S:=mixed
theorem sU (S:List Nat):aH Tryz.prog [(5,(.step 0 (.step 1 (.step 2 (.step 4 (.read 3 (.step 5 (.step 6 (.step 7 (.step 9 (.read 8 (.pure 10 (.step 11 (.step 12 (.step 13 (.step 14 (.step 15 (.step 16 (.step 18 (.read 17 (.step 19 (.step 20 (.step 21 (.pure 23 (.read 22 (.pure 24 (.step 25 (.step 26 .done))))))))))))))))))))))))))))] S:=mixed
open Cd (eW)
theorem FK (g:bZ):jO (jO g)=jO g:=by simp[jO,C3,yh,Function.comp_def]
theorem Gj (g:bZ):(cQ g).1.length≤65536:=by
 unfold cQ uK;split
 ·simp
 split
 ·simp
 split
 ·simp
 split
 ·simp
 split
 ·simp
 ·rename_i h;simp only[not_or]at h;simp only;omega
def Xa (g:bZ) (σ:AS) (r:AV) (σ':AS):Prop:= ∃nl,(nl=true→g.ts= [])∧ao (.bQ [pD { jO g with tn:=nl },Mv (0,0,0)]) σ r σ'
theorem rJ {g:bZ}(n:DY g=true) (j:rW g) (l:∀m∈g.ms,∀x∈m.code,Cd.fY x) (d:(cQ g).2=0) (σ:AS):
 aa Tryz.prog 16 [.an 5 ((cQ g).1.map u8) .aE false] σ (Xa g σ) No:=by
 have h:=Mb (cQ g).1 .aE false (by simp) (by have:=Gj g;omega) σ;rw[GQ n j l d]at h;refine h.mono (fun r σ' i=> ?_) (fun _ _ h=>h);rcases i with⟨u,nl,h1,q,o⟩|⟨f,h1,_⟩
 ·cases h1;exact⟨nl,fun e=>by have:=q e;simpa[jO]using this,o⟩
 ·cases h1
theorem VA:Program.stoodInHeld Tryz.prog 39=false:=by kernel_rfl
@[simp] theorem VU:Program.eqGuardType Tryz.prog Tryz.prog.depth 39=false:=by kernel_rfl
theorem NC (a b c i h d:Int):kg Tryz.prog 8 39 (.agg [.sc (.int .i64 a),.sc (.int .i64 b),.sc (.int .i64 c)]) (.agg [.sc (.int .i64 i),.sc (.int .i64 h),.sc (.int .i64 d)])=some (decide (a=i)&&(decide (b=h)&&decide (c=d))):=by simp[kg,pY,Tryz.underlying39,Tryz.underlying31,Tryz.underlying3]
def w0:bZ:=⟨[],true,[],true,[],true,-1⟩
def w1:bZ:=⟨[⟨[65],0,-1,[],true⟩],false,[],true,[⟨[109],0,1,[],true,⟨1,0,0,false⟩,[],true,0,[⟨46,0,eW⟩],false,[],true⟩],false,0⟩
theorem QB:DY w0=true:=by decide+kernel
theorem Qy:DY w1=true:=by decide+kernel
theorem Qz:(cQ w0).2=0:=by decide+kernel
theorem Qw:(cQ w1).2=0:=by decide+kernel
theorem QA:rW w0:=Aa (vE.1 QB) (by simp[w0]) (by simp[w0])
theorem Qx:rW w1:=Aa (vE.1 Qy) (by simp[w1,Cd.fY]) (by simp[w1])
theorem HY {w:bZ}(j:KW w) (i:rW w) (d:(cQ w).2=0) (σ:AS):aa Tryz.prog 12 [pD w] σ (ao (.bQ [.an 5 ((cQ w).1.map u8) .aE false,.sc (.int .i64 0)]) σ) No:=by
 have h:=EV w j (fun _ =>i) (fun _ =>Aw w) σ;have e:xU w= .bQ [.an 5 ((cQ w).1.map u8) .aE false,.sc (.int .i64 0)]:=by unfold xU;rw[d];simp
 rwa [e]at h
theorem TO:KW w0:=by constructor<;>simp[w0]
theorem TN:KW w1:=by refine⟨by simp[w1],by simp[w1],by simp[w1],by simp[w1],by simp[w1],fun m hm=> ?_⟩;simp[w1]at hm;subst hm;constructor<;>simp
theorem FX {P:Program}{e:TypeId}{l d:List AV}{o:cL}{nl:Bool}(hl:l.length=d.length) (h:∀i,i<d.length→(l.getD i .any).cells.length=(d.getD i .any).cells.length∧ ∀j,AV.Wk P ((l.getD i .any).cells.getD j .any) ((d.getD i .any).cells.getD j .any)):AV.Wk P (.an e l o nl) (.an e d .aE nl):=by
 refine fun G v A=>(qm e d o nl).2 trivial G v ?_;generalize y:l=L at A;cases A with
 |jd u=>subst y;have:d= []:=List.length_eq_zero_iff.1 (by simpa using hl.symm);subst this;exact .jd u
 |pR=>subst y;have:d= []:=List.length_eq_zero_iff.1 (by simpa using hl.symm);subst this;exact .pR
 |an vs w hm D n u=>
  subst y;rw[hl]at n u⊢;refine .an vs (fun i q=> ?_) (fun k E=>hm k (by rw[hl];exact E)) (fun i j q F=> ?_) n u
  ·rw[←(h i q).1];exact w i (by rw[hl];exact q)
  ·exact(h i q).2 j _ _ (D i j (by rw[hl];exact q) F)
theorem Ll (σ:AS):aa Tryz.prog 17 [] σ (ao (pD w1) σ) No:=by
 refine aa.ob Tryz.func17 ?_;refine gO FZ tI tI ?_;intro id d;refine gO FZ tI tI ?_;refine⟨St.lG (FX rfl fun i h=> ?_) ((mW _).2 trivial) (FX rfl fun i h=> ?_) (Wk.refl _),aq d (lR _)⟩
 ·obtain rfl:i=0:=by have h1:i<1:=h;omega
  refine⟨rfl,fun j=> ?_⟩
  match j with
  |0=>exact Wk.refl _
  |1=>exact Wk.refl _
  |2=>exact Wk.refl _
  |3=>exact(mW _).2 trivial
  |j+4=>exact Wk.refl _
 ·obtain rfl:i=0:=by have h1:i<1:=h;omega
  refine⟨rfl,fun j=> ?_⟩
  match j with
  |0=>exact Wk.refl _
  |1=>exact Wk.refl _
  |2=>exact Wk.refl _
  |3=>exact(mW _).2 trivial
  |4=>exact Wk.refl _
  |5=>exact Wk.refl _
  |6=>exact Wk.refl _
  |7=>exact Wk.refl _
  |8=>exact(mW _).2 trivial
  |9=>exact Wk.refl _
  |10=>exact(qm _ _ _ _).2 trivial
  |11=>exact(mW _).2 trivial
  |j+12=>exact Wk.refl _
theorem KZ (σ:AS):aa Tryz.prog 7 [] σ (ao (.sc (.bool true)) σ) No:=by
 have A:=fun σ=>HY TO QA Qz σ;have y:=fun σ=>HY TN Qx Qw σ;have O:=fun σ=>rJ QB QA (by simp[w0]) Qz σ;have M:=fun σ=>rJ Qy Qx (by simp[w1,Cd.fY]) Qw σ;have w:=fun σ=>Ll σ;have L:=fun nl σ=>vt { jO w0 with tn:=nl } w0 (FK w0) (by constructor<;>simp[jO,w0]) σ;have J:=fun nl σ=>vt { jO w1 with tn:=nl } w1 (FK w1) (by constructor<;>simp[jO,w1,C3,yh]) σ;generalize (cQ w0).1=b0 at A O;generalize (cQ w1).1=b1 at y M;have v:AV.Wk Tryz.prog (.agg [.ai,.ai,.ai,.sc (.int .i64 (-1))]) (pD w0):=St.lG ((mW _).2 trivial) ((mW _).2 trivial) ((mW _).2 trivial) (Wk.refl _);have H:∀σ,aa Tryz.prog 12 [.agg [.ai,.ai,.ai,.sc (.int .i64 (-1))]] σ (ao (.bQ [.an 5 (b0.map u8) .aE false,.sc (.int .i64 0)]) σ) No:=fun σ=>aa.wk [pD w0] (A σ) rfl (fun i P=>by
  obtain rfl:i=0:=by have h1:i<1:=P;omega
  exact v)
 have K:∀nl σ,aa Tryz.prog 15 [pD { jO w0 with tn:=nl },.agg [.ai,.ai,.ai,.sc (.int .i64 (-1))]] σ (ao (.sc (.bool true)) σ) No:=fun nl σ=>aa.wk [pD { jO w0 with tn:=nl },pD w0] (L nl σ) rfl (fun i P=>by
  match i,P with
  |0,_ =>exact Wk.refl _
  |1,_ =>exact v
  |i+2,P=>exact absurd P (by show ¬i+1+1<2;omega))
 clear A L v;refine aa.ob Tryz.func7 ?_;refine gO sU tI @H ?_;refine ag.of (O _) ?_ (fun _ _ h=>h.elim);rintro r σ1 ⟨nl,af,rfl,rfl⟩;have Z:=fun σ=>K nl σ;simp only[b9,Mv]at Z w y J⊢;simp-implicitDefEqProofs;intro id3 q;refine gO sU tI tI ?_;intro u d o;have j:=aA d;simp-implicitDefEqProofs [d,j];refine gO sU tI (j2 @w @y) ?_;obtain⟨S,hS,Y,k4,hle⟩:∃S:AS,((σ.set id3 (.cells 26 [.an 46 ((jO w0).ts.map kE) .aE nl,.an 56 ((jO w0).fs.map ny) .aE (jO w0).fn,.an 53 ((jO w0).ms.map jK) .aE (jO w0).mn,.sc (.int .i64 (jO w0).entry)])).set u (.cells 39 [.sc (.int .i64 0),.sc (.int .i64 0),.sc (.int .i64 0)]))=S∧S id3=some (.cells 26 [.an 46 ((jO w0).ts.map kE) .aE nl,.an 56 ((jO w0).fs.map ny) .aE (jO w0).fn,.an 53 ((jO w0).ms.map jK) .aE (jO w0).mn,.sc (.int .i64 (jO w0).entry)])∧S u=some (.cells 39 [.sc (.int .i64 0),.sc (.int .i64 0),.sc (.int .i64 0)])∧AS.le σ S:=
  ⟨_,rfl,by rw[AS.ad _ _ j,AS.aj],AS.aj _ _ _,AS.ah (AS.ah (lR _) q) o⟩
 rw[hS];clear hS q o;refine ag.of (M _) ?_ (fun _ _ h=>h.elim);rintro r σ2 ⟨Q,ab,rfl,rfl⟩;have I:=fun σ=>J Q σ;simp only[b9,Mv]at I⊢;simp-implicitDefEqProofs;intro G n;have X:¬id3=G:=nq Y n;have U:¬u=G:=nq k4 n;refine gO sU tI tI ?_;intro F D l;have E:=aA D;have V:¬id3=F:=nq Y l;have T:¬u=F:=nq k4 l;simp-implicitDefEqProofs [E,D];refine gO sU (j8 @Y @k4 @X @U @V @T @E @NC) (j3 @w @Z @I) ?_;exact AS.le_trans hle (AS.ah (AS.ah (lR _) n) l)
theorem eM (S:List Nat):aH Tryz.prog [] S:=mixed
def pG (t:TD):Bool:=decide (20<t.aZ.length∨100<t.name.length)
def mK (m:Mt):Bool:=decide (30<m.ps.length∨30<m.ls.length∨200<m.code.length∨20<m.cls.length∨100<m.name.length)
def wR (g:bZ):Bool:=decide (40<g.ts.length∨80<g.fs.length∨80<g.ms.length)||(g.ts.any pG||g.ms.any mK)
theorem FV {α:Type}{p:α→Bool}{l:List α}{i:Nat}(h:i<l.length) (d:p l[i]=true):l.any p=true:=by rw[List.any_eq_true];exact⟨_,List.getElem_mem h,d⟩
theorem any_none {α:Type}{p:α→Bool}{l:List α}{i:Nat}(h:¬i<l.length) (h1:∀x∈l.take i,p x=false):l.any p=false:=by
 rw[List.take_of_length_le (by omega)]at h1;cases e:l.any p with
 |false=>rfl
 |true=>rw[List.any_eq_true]at e;obtain⟨x,j,d⟩:=e;rw[h1 x j]at d;cases d
theorem CH {α:Type}{p:α→Bool}{l:List α}{i:Nat}(h:i<l.length) (h1:∀x∈l.take i,p x=false) (j:p l[i]=false):∀x∈l.take (i+1),p x=false:=by
 intro x d;rw[List.take_succ_eq_append_getElem h]at d;rcases List.mem_append.1 d with d|d
 ·exact h1 x d
 ·simp at d;rw[d];exact j
theorem Ma (g:bZ) (h1:g.ts.length≤140737488355328) (h2:g.ms.length≤140737488355328) (σ:AS):
 aa Tryz.prog 8 [pD g] σ (ao (.sc (.bool (wR g))) σ) No:=by
 unfold wR;generalize E:decide (40<g.ts.length∨80<g.fs.length∨80<g.ms.length)=d0;generalize S:g.ts.any pG=X;generalize U:g.ms.any mK=Y;simp only[b9];refine aa.ob Tryz.func8 ?_;refine gO eM tI tI ?_;intro id V;by_cases a1:40<g.ts.length
 ·have D:(40<(g.ts.length:Int))=True:=by simp;omega
  obtain rfl:d0=true:=by rw[←E];simp;omega
  refine gO eM @D tI ?_;all_goals (repeat' (with_reducible apply j2))
  all_goals exact gL tI
 ·have D:(40<(g.ts.length:Int))=False:=by simp;omega
  by_cases a2:80<g.fs.length
  ·have G:(80<(g.fs.length:Int))=True:=by simp;omega
   obtain rfl:d0=true:=by rw[←E];simp;omega
   refine gO eM (j2 @D @G) tI ?_;all_goals (repeat' (with_reducible apply j2))
   all_goals exact gL tI
  ·have G:(80<(g.fs.length:Int))=False:=by simp;omega
   by_cases a3:80<g.ms.length
   ·have L:(80<(g.ms.length:Int))=True:=by simp;omega
    obtain rfl:d0=true:=by rw[←E];simp;omega
    refine gO eM (j3 @D @G @L) tI ?_;all_goals (repeat' (with_reducible apply j2))
    all_goals exact gL tI
   ·have L:(80<(g.ms.length:Int))=False:=by simp;omega
    obtain rfl:d0=false:=by rw[←E];simp;omega
    refine gO eM (j3 @D @G @L) tI ?_;refine ae.bp (α:=(Nat)) (0) (fun i=>g.ts.length-i) (fun i=>i≤g.ts.length∧ ∀x∈g.ts.take i,pG x=false) [(1,?_)] (fun i=> [(3,.sc (.int .i64 i))]) (fun i=>σ.set id (.cells 26 (pD g).cells)) ?_ ?_ ?_ ?_;rotate_left 1
    ·exact gF tI
    ·exact gT
    ·(try dsimp only)<;>first|exact trivial|exact⟨by omega,rfl⟩|omega|(simp;done)|exact⟨by omega,by simp⟩|exact⟨by omega,by simp,rfl⟩
    intro i w;try dsimp only at w⊢
    obtain⟨ac,P⟩:=w;simp only[gj];by_cases d:i<g.ts.length
    ·have I:IntKind.i64.wrap ((i:Int)+1)=((i+1:Nat):Int):=cv (by omega);have l:pG g.ts[i]=true→X=true:=fun h=>by rw[←S];exact FV d h
     have u:pG g.ts[i]=false→ ∀y∈g.ts.take (i+1),pG y=false:=fun h=>CH d P h;generalize M:g.ts[i]=t at*;by_cases b1:20<t.aZ.length
     ·have n:(20<(t.aZ.length:Int))=True:=by simp;omega
      rw[l (by unfold pG;simp;omega)];refine gO eM (j6 @d @M @eu @b9 @n @aI) tI ?_;all_goals (repeat' (with_reducible apply j2))
      all_goals exact gL tI
     ·have n:(20<(t.aZ.length:Int))=False:=by simp;omega
      by_cases b2:100<t.name.length
      ·have o:(100<(t.name.length:Int))=True:=by simp;omega
       rw[l (by unfold pG;simp;omega)];refine gO eM (j8 @d @M @eu @b9 @n @o @aI @I) tI ?_;all_goals (repeat' (with_reducible apply j2))
       all_goals exact gL tI
      ·have o:(100<(t.name.length:Int))=False:=by simp;omega
       refine gO eM (j8 @d @M @eu @b9 @n @o @aI @I) tI ?_;refine aP.mk (i+1) (by(try dsimp only);omega) (gF tI) gT ?_;try dsimp only
       exact⟨d,u (by unfold pG;simp;omega)⟩
    ·have Q:X=false:=by rw[←S];exact any_none d P
     rw[Q];refine gO eM (j3 @d @b9 @aI) tI ?_;refine ae.bp (α:=(Nat)) (0) (fun j=>g.ms.length-j) (fun j=>j≤g.ms.length∧ ∀x∈g.ms.take j,mK x=false) [(1,?_)] (fun j=> [(4,.sc (.int .i64 j))]) (fun j=>σ.set id (.cells 26 (pD g).cells)) ?_ ?_ ?_ ?_;rotate_left 1
     ·exact gF tI
     ·exact gT
     ·(try dsimp only)<;>first|exact trivial|exact⟨by omega,rfl⟩|omega|(simp;done)|exact⟨by omega,by simp⟩|exact⟨by omega,by simp,rfl⟩
     intro j w;try dsimp only at w⊢
     obtain⟨ab,O⟩:=w;simp only[gj];by_cases q:j<g.ms.length
     ·have H:IntKind.i64.wrap ((j:Int)+1)=((j+1:Nat):Int):=cv (by omega);have l:mK g.ms[j]=true→Y=true:=fun h=>by rw[←U];exact FV q h
      have u:mK g.ms[j]=false→ ∀y∈g.ms.take (j+1),mK y=false:=fun h=>CH q O h;generalize M:g.ms[j]=m at*;refine gO eM (j5 @q @M @cY @b9 @aI) tI ?_;intro Z v J;by_cases b1:30<m.ps.length
      ·have n:(30<(m.ps.length:Int))=True:=by simp;omega
       rw[l (by unfold mK;simp;omega)];refine gO eM @n tI ?_;all_goals (repeat' (with_reducible apply j2))
       all_goals exact gL tI
      ·have n:(30<(m.ps.length:Int))=False:=by simp;omega
       by_cases b2:30<m.ls.length
       ·have o:(30<(m.ls.length:Int))=True:=by simp;omega
        rw[l (by unfold mK;simp;omega)];refine gO eM (j2 @n @o) tI ?_;all_goals (repeat' (with_reducible apply j2))
        all_goals exact gL tI
       ·have o:(30<(m.ls.length:Int))=False:=by simp;omega
        by_cases b3:200<m.code.length
        ·have A:(200<(m.code.length:Int))=True:=by simp;omega
         rw[l (by unfold mK;simp;omega)];refine gO eM (j3 @n @o @A) tI ?_;all_goals (repeat' (with_reducible apply j2))
         all_goals exact gL tI
        ·have A:(200<(m.code.length:Int))=False:=by simp;omega
         by_cases b4:20<m.cls.length
         ·have F:(20<(m.cls.length:Int))=True:=by simp;omega
          rw[l (by unfold mK;simp;omega)];refine gO eM (j4 @n @o @A @F) tI ?_;all_goals (repeat' (with_reducible apply j2))
          all_goals exact gL tI
         ·have F:(20<(m.cls.length:Int))=False:=by simp;omega
          by_cases b5:100<m.name.length
          ·have K:(100<(m.name.length:Int))=True:=by simp;omega
           rw[l (by unfold mK;simp;omega)];refine gO eM (j6 @n @o @A @F @K @H) tI ?_;all_goals (repeat' (with_reducible apply j2))
           all_goals exact gL tI
          ·have K:(100<(m.name.length:Int))=False:=by simp;omega
           refine gO eM (j6 @n @o @A @F @K @H) tI ?_;refine aP.mk (j+1) (by(try dsimp only);omega) (gF tI) (by(try dsimp only);exact aq (by simp[v,J]) (lR _)) ?_;try dsimp only
           exact⟨q,u (by unfold mK;simp;omega)⟩
     ·have T:Y=false:=by rw[←U];exact any_none q O
      rw[T];refine gO eM (j3 @q @b9 @aI) tI ?_;all_goals (repeat' (with_reducible apply j2))
      all_goals exact gL tI
theorem o8 (S:List Nat):aH Tryz.prog [] S:=mixed
theorem QI {g:bZ}(h:wR g=false):Sh g:=by
 unfold wR at h;simp only[Bool.or_eq_false_iff,decide_eq_false_iff_not]at h;obtain⟨h1,i,d⟩:=h;rw[List.any_eq_false]at i d;refine⟨by omega,by omega,by omega,fun t ht=> ?_,fun m hm=> ?_⟩
 ·have:=i t ht;simp[pG]at this;omega
 ·have:=d m hm;simp[mK]at this;omega
theorem OZ {g:bZ}(h:KW g):KW (jO g):=by
 refine⟨by simpa[jO]using h.ts,h.fs,by simpa[jO]using h.ms,fun t ht=> ?_,h.f,fun m hm=> ?_⟩
 ·obtain⟨a,ha,rfl⟩:=List.mem_map.1 ht;exact h.t a ha
 ·obtain⟨a,ha,rfl⟩:=List.mem_map.1 hm;have:=h.m a ha;exact⟨this.name,this.ps,this.ls,this.code,this.cls⟩
theorem OY {g:bZ}(h:wR g=false):V3 g:=by
 unfold wR at h;simp only[Bool.or_eq_false_iff,decide_eq_false_iff_not]at h;obtain⟨h1,i,d⟩:=h;rw[List.any_eq_false]at i d;refine⟨by omega,by omega,by omega,fun t ht=> ?_,fun m hm=> ?_⟩
 ·have:=i t ht;simp[pG]at this;omega
 ·have:=d m hm;simp[mK]at this;omega
theorem Kb (g:bZ):∀m∈(jO g).ms,(m.cn=true→m.code= [])∧(m.ln=true→m.ls= []):=by intro m hm;obtain⟨a,_,rfl⟩:=List.mem_map.1 hm;simp[yh]
theorem Kc {g:bZ}(h:∀m∈g.ms,∀x∈m.code,Cd.fY x):∀m∈(jO g).ms,∀x∈m.code,Cd.fY x:=by intro m hm;obtain⟨a,ha,rfl⟩:=List.mem_map.1 hm;exact h a ha
theorem Gk {g:bZ}(h:(cQ g).2≠0):(cQ g).1= []:=by
 unfold cQ uK at h⊢;split at h
 ·rename_i c;rw[if_pos c]
 rename_i c;rw[if_neg c];split at h
 ·rename_i c;rw[if_pos c]
 rename_i c;rw[if_neg c];split at h
 ·rename_i c;rw[if_pos c]
 rename_i c;rw[if_neg c];split at h
 ·rename_i c;rw[if_pos c]
 rename_i c;rw[if_neg c];split at h
 ·rename_i c;rw[if_pos c]
 ·simp at h
theorem z9 (g:bZ) (w:KW g) (H:∀m∈g.ms,∀x∈m.code,Cd.fY x):
 aa Tryz.prog 5 [pD g] OL AO No:=by
 have hw:=fun σ=>KZ σ;have hl:=fun σ=>Ma g w.ts w.ms σ;cases v:wR g with
 |true=>rw[v]at hl;simp only[b9]at hl⊢;refine aa.ob Tryz.func5 ?_;refine gO o8 tI tI ?_;intro id j;exact gE o8 tI (j2 @hw @hl)
 |false=>
  rw[v]at hl;have o:=fun σ=>Hj g (QI v) σ;have G:DY (jO g)=true→rW (jO g):=fun h=>Aa (vE.1 h) (Kc H) (Kb g);have d:=fun σ=>EV (jO g) (OZ w) G (fun _ =>Aw _) σ;by_cases i:(cQ (jO g)).2=0
  ·have I:DY (jO g)=true:=by
    cases h:DY (jO g)with
    |true=>rfl
    |false=>unfold cQ at i;rw[if_pos h]at i;simp at i
   have n:=fun σ=>rJ I (G I) (Kc H) i σ;have l:=fun nl σ=>vt g { jO (jO g)with tn:=nl } ((FK g).symm.trans (FK (jO g)).symm) (OY v) σ;have e:xU (jO g)= .bQ [.an 5 ((cQ (jO g)).1.map u8) .aE false,.sc (.int .i64 0)]:=by unfold xU;rw[i];simp
   rw[e]at d;generalize (cQ (jO g)).1=b at d n;simp only[b9]at hl o d l⊢;refine aa.ob Tryz.func5 ?_;refine gO o8 tI tI ?_;intro id j;refine gO o8 tI (j4 @hw @hl @o @d) ?_;refine ag.of (n _) ?_ (fun _ _ h=>h.elim);rintro r M ⟨nl,J,rfl,rfl⟩;have D:=fun σ=>l nl σ;simp only[b9,Mv]at D⊢;simp-implicitDefEqProofs;intro id5 L F id6 q K E;have A:=aA L;have y:=aA K;have u:=aA q;simp-implicitDefEqProofs [q,u];exact gE o8 (j4 @A @y @u @NC) @D
  ·have e:xU (jO g)= .bQ [.an 5 [] .aE true,.sc (.int .i64 (cQ (jO g)).2)]:=by unfold xU;rw[Gk i];simp[i]
   rw[e]at d;generalize (cQ (jO g)).2=P at d i;generalize jO g=O at o d;simp only[b9]at hl o d⊢;refine aa.ob Tryz.func5 ?_;refine gO o8 tI tI ?_;intro id j;exact gE o8 @i (j4 @hw @hl @o @d)
end Im
namespace Fm
open Go Go.ChangeShapes Go.WideShapes Go.ChangeAt
abbrev cX:=Rows.imageBackRow
abbrev sX:ChangeSpec:=(OpenSpec.ofChange Rows.imageBackSpec).bare
theorem bi {a b:Bool}(h:a=true) (d:b=true):(a&&b)=true:=by rw[h,d];rfl
theorem WM:(cX.wf (OpenSpec.ofChange sX))=true:=by kernel_rfl
theorem WL:(laidOutB Tryz.prog)=true:=by kernel_rfl
theorem WK:(mapsRowed Tryz.prog)=true:=by kernel_rfl
theorem WJ:(Tryz.f5.params.all (Tryz.prog.readableRec ·))=true:=by kernel_rfl
theorem WI:(namedTie Tryz.prog cX.named sX.vars)=true:=by kernel_rfl
theorem WH:((cX.stops== []))=true:=by kernel_rfl
theorem WG:((Tryz.prog.stops== []))=true:=by kernel_rfl
theorem WE:((cX.knobs== []))=true:=by kernel_rfl
theorem WD:((Tryz.prog.stopKnobs== []))=true:=by kernel_rfl
theorem WC:((cX.inPlace==Tryz.prog.inPlace 5))=true:=by kernel_rfl
theorem Uy:((cX.unfollowed==Tryz.prog.unfollowed 5))=true:=by kernel_rfl
theorem Ux:((cX.recurses==Tryz.prog.recurses 5))=true:=by kernel_rfl
theorem Uw:((cX.named==Tryz.prog.varsNamed 5))=true:=by kernel_rfl
theorem Uv:((cX.maps==(Tryz.f5.params.toList++sX.plain.varTypes Tryz.prog).any (Tryz.prog.mapsRec ·)))=true:=by kernel_rfl
theorem Uu:((cX.ifaces==(Tryz.f5.params.toList++sX.plain.varTypes Tryz.prog).any (Tryz.prog.ifacesRec ·)))=true:=by kernel_rfl
theorem Ut:((cX.mapsOut==Tryz.prog.mapsAmong Tryz.f5.resultTypes.toList))=true:=by kernel_rfl
theorem Us:((cX.loops==(Tryz.f5.params.toList++sX.plain.varTypes Tryz.prog).any (Tryz.prog.loopsFrom ·)))=true:=by kernel_rfl
theorem Ur:((cX.wideKeys==(Tryz.f5.params.toList++sX.plain.varTypes Tryz.prog++Tryz.f5.resultTypes.toList).any (Tryz.prog.wideKeysFrom ·)))=true:=by kernel_rfl
theorem Uq:(sX.vars.all (Tryz.prog.varReadable ·))=true:=by kernel_rfl
theorem Up:(Tryz.f5.resultTypes.all (fun t=>Tryz.prog.readableRec t&&decide (t<Tryz.prog.types.size)))=true:=by kernel_rfl
theorem Uo:((cX.ifacesOut==Tryz.f5.resultTypes.toList.any (Tryz.prog.ifacesRec ·)))=true:=by kernel_rfl
theorem Un:((cX.loopsOut==Tryz.f5.resultTypes.toList.any (Tryz.prog.loopsFrom ·)))=true:=by kernel_rfl
theorem Um:((cX.plainKeys==Tryz.prog.plainKeys))=true:=by kernel_rfl
theorem Ul:(cX.shortTexts.isNone)=true:=by kernel_rfl
theorem Uk:(Tryz.prog.stopsHeard)=true:=by kernel_rfl
theorem Uj:(Tryz.prog.mayEnter)=true:=by kernel_rfl
theorem Ui:((cX.lifted==Tryz.prog.liftsFinal))=true:=by kernel_rfl
theorem Uh:((Tryz.prog.make==some cX.make))=true:=by kernel_rfl
theorem Ug:((cX.kinds==(if cX.domain.isEmpty then []else Tryz.f5.params.toList.map fun t=>match Tryz.prog.underlying t with|some (.int k)=>some k| _ =>none)))=true:=by kernel_rfl
theorem Uf:((cX.pinned==cX.pinnedBy))=true:=by kernel_rfl
theorem Ue:((cX.veiled==(Tryz.f5.params.toList++sX.plain.varTypes Tryz.prog++Tryz.f5.resultTypes.toList).any (Tryz.prog.veiledRec ·)))=true:=by kernel_rfl
theorem Ud:(cX.veiledFits Tryz.prog Tryz.f5.params.toList (Tryz.f5.params.toList++sX.plain.varTypes Tryz.prog++Tryz.f5.resultTypes.toList))=true:=by kernel_rfl
theorem OW:joinedFacts Tryz.prog 5 Tryz.f5 sX cX=true:=(bi (bi (bi (bi (bi (bi (bi (bi (bi (bi (bi (bi (bi (bi (bi (bi (bi (bi (bi (bi (bi (bi (bi (bi (bi (bi (bi (bi (bi (bi (bi WM WL) WK) WJ) WI) WH) WG) WE) WD) WC) Uy) Ux) Uw) Uv) Uu) Ut) Us) Ur) Uq) Up) Uo) Un) Um) Ul) Uk) Uj) Ui) Uh) Ug) Uf) Ue) Ud)
theorem named:Tryz.prog.funcNamed cX.func=some 5:=by kernel_rfl
end Fm
end Go.Proofs.YtknalmoackcpbaaGreat
