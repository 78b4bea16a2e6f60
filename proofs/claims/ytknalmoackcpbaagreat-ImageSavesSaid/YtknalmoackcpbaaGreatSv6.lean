/- Chapter 10: a type is saved. -/
import Derived.Test.YtknalmoackcpbaaGreatDv2
set_option maxRecDepth 100000
set_option maxHeartbeats 3200000
set_option linter.all false
open Go Go.AW
namespace Go.Proofs.YtknalmoackcpbaaGreat
namespace Im
open Tryz
abbrev mM:dW:=(.S 1 (.S 4 (.S 7 (.S 8 (.S 9 (.R 3 (.R 5 (.A 0 (.A 2 (.A 6 (.W 10 (.A 11 .D .Z) .Z) .Z) (.A 6 (.R 2 (.W 10 (.A 11 .D .Z) .Z)) .Z)) (.A 2 (.A 0 (.A 6 (.W 10 (.A 11 .D .Z) .Z) .Z) (.A 6 (.A 0 (.W 10 (.A 11 .D .Z) .Z) (.W 10 (.R 0 (.A 11 .D .Z)) .Z)) .Z)) (.A 6 (.R 2 (.A 0 (.W 10 (.A 11 .D .Z) .Z) (.W 10 (.R 0 (.A 11 .D .Z)) .Z))) .Z))))))))))
theorem iY (S:List Nat):cu prog [(6,mM)] S:=mixed
open Sg (aE bL)
open Pl (sV)
def dk (l:List Int) (k:Int):Int:=((l.takeWhile (fun o=>decide (o<k))).length:Int)+1
theorem Ls {l:List Int}{k:Int}{i:Nat}(n:i≤l.length) (h1:∀j (v:j<l.length),j<i→l[j]<k) (h2:∀h:i<l.length,¬l[i]<k):(l.takeWhile (fun o=>decide (o<k))).length=i:=by
 induction l generalizing i with
 |nil=>simp at n;simp[n]
 |cons a r q=>
  cases i with
  |zero=>have:=h2 (by simp);simp at this;simp[List.takeWhile_cons,this]
  |succ i=>have h0:=h1 0 (by simp) (by omega);simp at h0;rw[List.takeWhile_cons];simp only[h0,decide_true,if_true,List.length_cons];rw[q (by simpa using n) (fun j v u=>by have:=h1 (j+1) (by simp;omega) (by omega);rwa [List.getElem_cons_succ]at this) (fun h=>by have:=h2 (by simp;omega);rwa [List.getElem_cons_succ]at this)]
theorem AD (l:List Int) (k:Int) (D:AV) (σ:AS) (hl:l.length≤1000000) (hf:∀i (h:i<l.length),nJ prog σ D [zI i] (zI (l[i]))):
 ad prog 131 [zI l.length,D,zI k] σ (aq (zI (dk l k)) σ) No:=by
 refine ad.ob func131 ?_;refine gO aa tI tI ?_;refine aA.aY (α:=(Nat)) (0) (fun i=>l.length-i) (fun i=>i≤l.length∧ ∀j (v:j<l.length),j<i→l[j]<k) [(0,?_),(1,?_),(2,?_),(6,?_)] (fun i=> [(7,zI i)]) (fun i=>σ) ?_ ?_ ?_ ?_;rotate_left 4
 ·exact gF tI
 ·exact gT
 ·exact⟨by omega,fun j _ v=>by omega⟩
 intro i q;try dsimp only at q⊢
 obtain⟨y,w⟩:=q;simp only[fm];by_cases hlt:i<l.length
 ·have n:zW ((i:Int)+1)=((i+1:Nat):Int):=bh (by omega);have hu:=hf i hlt;by_cases o:l[i]<k
  ·repeat (first
    |refine g1 ?_
    |((first|refine g2 ?_ |((with_reducible apply aj.id);first|apply (hu.use)));simp-implicitDefEqProofs [hlt,o,ae,au,n])
    |(refine g3 ?_;try simp-implicitDefEqProofs [hlt,o,ae,au,n]))
   refine aH.mk (i+1) (by(try dsimp only);omega) (gF tI) gT ?_;try dsimp only
   refine⟨hlt,fun j v E=> ?_⟩;by_cases e:j=i
   ·subst e;exact o
   ·exact w j v (by omega)
  ·rw[show dk l k=((i+1:Nat):Int) by rw[dk,Ls y w (fun _ =>o)];omega];repeat (first
    |refine g1 ?_
    |((first|refine g2 ?_ |((with_reducible apply aj.id);first|apply (hu.use)));simp-implicitDefEqProofs [hlt,o,ae,au,n])
    |(refine g3 ?_;try simp-implicitDefEqProofs [hlt,o,ae,au,n]))
   all_goals exact gJ tI
 ·have hw:dk l k=i+1:=by rw[dk,Ls y w (fun h=>absurd h hlt)]
  have u:zW ((i:Int)+1)=(i:Int)+1:=aI (by omega) (by omega);refine gO aa (j3 hlt @u @ae) tI ?_;rw[hw];exact Wk.refl _
theorem Jf (g:bZ) (n:List AV) (l:n.length=11) (o:AV) (i:Nat) (q:i<g.fs.length) (aF j:Nat) (σ:AS)
 (h:σ aF=some (.cells 74 (o:: .ah 56 (g.fs.map lu) .aJ g.fn::n))) (h3:σ j=some (.cells 60 [.ptr aF 0])):
 ad prog 132 [zI i,.ptr j 0] σ (aq (zI (g.fs[i].owner)) σ) No:=by
 generalize hf:g.fs[i]=f;refine ad.ob func132 ?_;exact gE aa (j7 @q @hf @dq @ae @h @h3 @l) tI
theorem Je (g:bZ) (n:List AV) (l:n.length=10) (q o:AV) (i:Nat) (u:i<g.ms.length) (aF j:Nat) (σ:AS)
 (h:σ aF=some (.cells 74 (q::o:: .ah 53 (g.ms.map fM) .aJ g.mn::n))) (h3:σ j=some (.cells 60 [.ptr aF 0])):
 ad prog 133 [zI i,.ptr j 0] σ (aq (zI (g.ms[i].owner)) σ) No:=by
 generalize hf:g.ms[i]=f;refine ad.ob func133 ?_;exact gE aa (j7 @u @hf @aT @ae @h @h3 @l) tI
def eJ (k:Nat) (t:TD):List (List Int):=t.bO.map fun x=> [(k:Int)+1,x+1]
theorem pN {α:Type}(l:List α) (i:Nat) (f h:α→α):(l.modify i f).modify i h=l.modify i (fun x=>h (f x)):=by
 apply List.ext_getElem
 ·simp
 ·intro j a b;simp only[List.getElem_modify];split<;>rfl
theorem modify_id {α:Type}(l:List α) (i:Nat):l.modify i (fun x=>x)=l:=by
 apply List.ext_getElem
 ·simp
 ·intro j a b;simp only[List.getElem_modify];split<;>rfl
theorem mX {l:List (List (List Int))}{t:Nat}{x:List (List Int)}{n m:Nat}(h:∀y∈l,y.length≤n) (hm:n+x.length≤m):∀y∈l.modify t (· ++x),y.length≤m:=by
 intro y q;obtain⟨j,o,rfl⟩:=List.getElem_of_mem q;simp only[List.getElem_modify];simp only[List.length_modify]at o;have:=h _ (List.getElem_mem o);split
 ·simp;omega
 ·omega
theorem oI.mk {P:Program}{α:Type}{I:α→Prop}{fr:α→List (Nat×AV)}{st:α→AS}{s:Fr}{σ:AS}(v:α) (h1:aP P s (gD (fr v))) (h2:AS.le (st v) σ) (h3:I v):Sg.oI P I fr st s σ:=⟨v,h3,h1,h2⟩
theorem iN {σ τ:AS}{i:Nat}(h:AS.le σ τ) (l:τ i=none):σ i=none:=by
 cases j:σ i with
 |none=>rfl
 |some y=>have:=h i y j;rw[l]at this;cases this
theorem oZ {T:SR}{n:Nat}(h:∀y∈cH T,y.length≤n):∀x∈T,x.2.length≤n:=fun x j=>by have:=h _ (List.mem_map.2 ⟨x,j,rfl⟩);simpa using this
variable {k:SK} {g:bZ} {d:SD} {T:SR} {B τ:AS}
theorem SI.Ui (h:SI k g d T B τ) (o:Nat) (t:TD) (hk:o≤1000) (he: -1≤t.ext∧t.ext≤1000) (hf:t.bO.length≤100) (ai:∀x∈t.bO,-1≤x∧x≤1000) (hd:d.nm.length≤90000) (hT:∀y∈cH T,y.length≤90000) (a6:g.fs.length≤100000) (a4:g.ms.length≤100000):
 ad prog 58 [.ptr k.aF 0,.sc (.int .i64 o),jD t] τ (fun r q=>r= .cp []∧ ∃u,SI k g { d with nm:=d.nm++ [t.name] } u B q∧
  cH u=((cH T).modify 0 (· ++ [[t.flags,d.nm.length,4*(t.ext+1),dk (g.fs.map (·.owner)) o,dk (g.ms.map (·.owner)) o]])).modify 3 (· ++eJ o t)) No:=by
 have al:=fun σ=>DU 0 (t.ext+1) σ;have am:t.ext≠ -1→(lB 0 (t.ext+1)).1=4*(t.ext+1):=fun h=>by unfold lB;rw[if_neg (by omega),if_neg (by omega),if_neg (by omega)];simp
 refine ad.ob func58 ?_;simp only[cK];refine gO iY tI tI ?_;intro n G;refine gO iY tI tI ?_;intro id5 j F;have l:=ba j;have h1:=h.own (b:= .cells 60 [.ptr k.aF 0]) G;have h2:=h1.own (i:=id5) (b:= .cells 46 (jD t).cells) (by simpa[AS.set,j]using F);simp only[cK,bq]at h2;have g3:((τ.set n (.cells 60 [.ptr k.aF 0])).set id5 (.cells 46 [.sc (.string ⟨t.name.toArray⟩),.sc (.int .i64 t.flags),.sc (.int .i64 t.ext),.ah 3 (t.bO.map iV) .aJ t.fn])) n=some (.cells 60 [.ptr k.aF 0]):=by simp[l]
 have g5:((τ.set n (.cells 60 [.ptr k.aF 0])).set id5 (.cells 46 [.sc (.string ⟨t.name.toArray⟩),.sc (.int .i64 t.flags),.sc (.int .i64 t.ext),.ah 3 (t.bO.map iV) .aJ t.fn])) id5=some (.cells 46 [.sc (.string ⟨t.name.toArray⟩),.sc (.int .i64 t.flags),.sc (.int .i64 t.ext),.ah 3 (t.bO.map iV) .aJ t.fn]):=by simp
 have hB:AS.le B ((B.set n (.cells 60 [.ptr k.aF 0])).set id5 (.cells 46 [.sc (.string ⟨t.name.toArray⟩),.sc (.int .i64 t.flags),.sc (.int .i64 t.ext),.ah 3 (t.bO.map iV) .aJ t.fn])):=AS.ao (AS.ao (lR _) (iN h.le G)) (by simpa[AS.set,j]using iN h.le (i:=id5) (by simpa[AS.set,j]using F));have k3:((B.set n (.cells 60 [.ptr k.aF 0])).set id5 (.cells 46 [.sc (.string ⟨t.name.toArray⟩),.sc (.int .i64 t.flags),.sc (.int .i64 t.ext),.ah 3 (t.bO.map iV) .aJ t.fn])) n=some (.cells 60 [.ptr k.aF 0]):=by simp[l]
 have k5:((B.set n (.cells 60 [.ptr k.aF 0])).set id5 (.cells 46 [.sc (.string ⟨t.name.toArray⟩),.sc (.int .i64 t.flags),.sc (.int .i64 t.ext),.ah 3 (t.bO.map iV) .aJ t.fn])) id5=some (.cells 46 [.sc (.string ⟨t.name.toArray⟩),.sc (.int .i64 t.flags),.sc (.int .i64 t.ext),.ah 3 (t.bO.map iV) .aJ t.fn]):=by simp
 generalize ((τ.set n (.cells 60 [.ptr k.aF 0])).set id5 (.cells 46 [.sc (.string ⟨t.name.toArray⟩),.sc (.int .i64 t.flags),.sc (.int .i64 t.ext),.ah 3 (t.bO.map iV) .aJ t.fn]))=S at*;generalize ((B.set n (.cells 60 [.ptr k.aF 0])).set id5 (.cells 46 [.sc (.string ⟨t.name.toArray⟩),.sc (.int .i64 t.flags),.sc (.int .i64 t.ext),.ah 3 (t.bO.map iV) .aJ t.fn]))=A at*;have hs:=h2.aF;have D:=hs;simp only[eh]at D;have Y:ad prog 131 [.sc (.int .i64 g.fs.length),.fn (.func 132) [] [.ptr n 0],.sc (.int .i64 o)] S (aq (.sc (.int .i64 (dk (g.fs.map (·.owner)) o))) S) No:=by simpa using AD (g.fs.map (·.owner)) o (.fn (.func 132) [] [.ptr n 0]) S (by simp;omega) (fun i hi=>nJ.fn (by simpa using Jf g _ rfl _ i (by simpa using hi) k.aF n S hs g3))
 have X:ad prog 131 [.sc (.int .i64 g.ms.length),.fn (.func 133) [] [.ptr n 0],.sc (.int .i64 o)] S (aq (.sc (.int .i64 (dk (g.ms.map (·.owner)) o))) S) No:=by simpa using AD (g.ms.map (·.owner)) o (.fn (.func 133) [] [.ptr n 0]) S (by simp;omega) (fun i hi=>nJ.fn (by simpa using Je g _ rfl _ _ i (by simpa using hi) k.aF n S hs g3))
 refine gO (S:= [2]) iY tI tI ?_
 (with_reducible apply aA.region);simp-implicitDefEqProofs [j,l,D,g3,g5]
 repeat (with_reducible refine j2 (by first|omega|assumption|decide) ?_)
 try (with_reducible apply aA.seq)
 refine Sg.Fv (α:=Unit) (fun _ =>True) (fun _ => [(1,.sc (.int .i64 o)),(3,.ptr n 0),(5,.ptr id5 0),(6,.sc (.int .i64 (4*(t.ext+1))))]) (fun _ =>S) ?_ ?_
 ·by_cases h0:0≤t.ext
  ·have hw:IntKind.i64.wrap (t.ext+1)=t.ext+1:=aI (by omega) (by omega);have hc:=am (by omega);refine gO iY (j3 @h0 @hw @g5) @al ?_;refine oI.mk (()) (gF @hc) (by(try dsimp only);exact lR _) ?_;try dsimp only
  ·have hw:t.ext= -1:=by omega
   refine gO iY @h0 tI ?_;refine oI.mk (()) (gF @hw) (by(try dsimp only);exact lR _) ?_;try dsimp only
 rintro _ _;refine gO (S:= [6]) iY (j2 @D @g3) (j2 @Y @X) ?_;refine Sg.Fv (α:=SR×AS) (fun v=>SI k g { d with nm:=d.nm++ [t.name] } v.1 A v.2∧cH v.1=(cH T).modify 0 (· ++ [[t.flags,d.nm.length,4*(t.ext+1),dk (g.fs.map (·.owner)) o,dk (g.ms.map (·.owner)) o]])) (fun v=> [(1,.sc (.int .i64 o)),(3,.ptr n 0),(5,.ptr id5 0)]) (fun v=>v.2) ?_ ?_
 ·(((with_reducible apply aA.nD (id:=6) (t:=mM));(exact mixed);kernel_rfl;kernel_rfl;(repeat (with_reducible first|apply cr.then|apply cr.block|apply cr.body|apply cr.no)));simp-implicitDefEqProofs [j,l,D,g3,g5])
  repeat' (with_reducible apply j2)
  all_goals
   refine aj.of (h2.name t.name (by omega)) ?_ (fun _ _ h=>h.elim);rintro r L ⟨rfl,h3⟩;have O:=h3.le _ _ k3;have M:=h3.le _ _ k5;clear hs D Y X;simp-implicitDefEqProofs [O,M]
   repeat' (with_reducible apply j2)
   all_goals
    refine pG.kI ?_ ?_
    ·decide
    simp-implicitDefEqProofs [bF,fR,aR];intro id E;have V:=h3.iW (t:=0) (vals:= [t.flags,d.nm.length,4*(t.ext+1),dk (g.fs.map (·.owner)) o,dk (g.ms.map (·.owner)) o]) (by omega) E (oZ fun y hy=>Nat.le_trans (hT y hy) (by omega));simp only[List.map_cons,List.map_nil,aG,List.length_cons,List.length_nil,Nat.reduceAdd,Int.natCast_zero]at V;have m3:¬n=id:=nq O E;have m5:¬id5=id:=nq M E;try simp-implicitDefEqProofs [m3,m5,O,M]
    refine aj.of V ?_ (fun _ _ h=>h.elim);rintro r H ⟨rfl,h4⟩;simp-implicitDefEqProofs;refine oI.mk ((lT T 0 (id,[t.flags,d.nm.length,4*(t.ext+1),dk (g.fs.map (·.owner)) o,dk (g.ms.map (·.owner)) o]),H)) (gF tI) (by(try dsimp only);exact lR _) ?_;try dsimp only
    exact⟨h4,kf _ _ _⟩
 ·rintro⟨T1,L⟩ ⟨h3,K⟩;simp only at h3 K⊢;have M:=h3.le _ _ k5;have ab:∀y∈cH T1,y.length≤90001:=by rw[K];exact mX hT (by simp)
  refine gO iY @M tI ?_;refine aA.aY (α:=(Nat)×(SR)×(AS)) ((0,T1,L)) (fun⟨i,u,q⟩=>t.bO.length-i) (fun⟨i,u,q⟩=>i≤t.bO.length∧SI k g { d with nm:=d.nm++ [t.name] } u A q∧cH u=(cH T1).modify 3 (· ++(eJ o t).take i)) [(1,?_),(3,?_),(52,?_),(53,?_)] (fun⟨i,u,q⟩=> [(54,.sc (.int .i64 i))]) (fun⟨i,u,q⟩=>q) ?_ ?_ ?_ ?_;rotate_left 4
  ·exact gF tI
  ·(try dsimp only);exact lR _
  ·exact⟨by omega,h3,by simp[modify_id]⟩
  intro x_ P;obtain⟨i,u,q⟩:=x_;try dsimp only at P⊢
  obtain⟨hi,h4,I⟩:=P;simp only[fm];have O:=h4.le _ _ k3;by_cases hlt:i<t.bO.length
  ·have w:IntKind.i64.wrap ((i:Int)+1)=((i+1:Nat):Int):=bh (by omega);have a5:=ai t.bO[i] (List.getElem_mem hlt);have ak:(eJ o t).take (i+1)=(eJ o t).take i++ [[(o:Int)+1,t.bO[i]+1]]:=by rw[List.take_succ_eq_append_getElem (by simpa[eJ]using hlt)];simp[eJ]
   have Z:∀y∈cH u,y.length≤100000:=by rw[I];exact mX ab (by simp[eJ];omega)
   have U:IntKind.i64.wrap ((o:Int)+1)=(o:Int)+1:=aI (by omega) (by omega);have Q:IntKind.i64.wrap (t.bO[i]+1)=t.bO[i]+1:=aI (by omega) (by omega);repeat (first
    |(with_reducible first|apply aA.seq|apply aA.block|refine j2 (by first|omega|assumption|decide) ?_)
    |((first|(with_reducible first|apply aA.fork|((fail_if_success (apply aA.region (id:=10)));apply aA.region)|show dd _ _ _ |show bT _ _ _ _ _ _ _ _ _)|((with_reducible apply aA.nD (id:=6) (t:=mM));(exact mixed);kernel_rfl;kernel_rfl;(repeat (with_reducible first|apply cr.then|apply cr.block|apply cr.body|apply cr.no))));simp-implicitDefEqProofs [hlt,iV,ae,au,w])
    |((with_reducible first|apply aA.ret|apply aA.skip|apply aA.exit);try simp-implicitDefEqProofs [hlt,iV,ae,au,w]))
   with_reducible apply aA.dB
   refine bQ.first 5 ?_;simp-implicitDefEqProofs [O,U,Q];refine bQ.sp rfl (iD.kI ?_ ?_)
   ·decide
   simp-implicitDefEqProofs [bF,fR,aR,U,Q];intro id E;have V:=h4.iW (t:=3) (vals:= [(o:Int)+1,t.bO[i]+1]) (by omega) E (oZ Z);simp only[List.map_cons,List.map_nil,aG,List.length_cons,List.length_nil,Nat.reduceAdd,Int.cast_ofNat_Int]at V;refine bQ.rest ?_;simp-implicitDefEqProofs;refine aj.of V ?_ (fun _ _ h=>h.elim);rintro r H ⟨rfl,h5⟩;simp-implicitDefEqProofs;refine gO iY @w tI ?_;refine aH.mk ((i+1,lT u 3 (id,[(o:Int)+1,t.bO[i]+1]),H)) (by(try dsimp only);omega) (gF tI) (by(try dsimp only);exact lR _) ?_;try dsimp only
   refine⟨hlt,h5,?_⟩;rw[kf,I,pN,ak];simp
  ·refine gO iY (j2 hlt @ae) tI ?_;refine⟨_,q,Wk.refl _,lR _,rfl,u,h4.drop hB,?_⟩;rw[I,K,List.take_of_length_le (by simp[eJ];omega)]
open Sg (aE bL)
open Pl (sV)
def jN (T:DR) (t:Nat) (p:DW):DR:=T.modify t fun x=>(x.1,x.2++ [p])
def ed (T:DR):List (List (List Int)):=T.map fun x=>x.2.map (·.2.1)
theorem kx (T:DR) (t:Nat) (p:DW):ed (jN T t p)=(ed T).modify t (· ++ [p.2.1]):=by
 unfold ed jN;induction T generalizing t with
 |nil=>cases t<;>rfl
 |cons x r j=>
  cases t with
  |zero=>simp
  |succ t=>simpa using j t
theorem IW (T:DR) (t:Nat) (p:DW):(jN T t p).map (·.1)=T.map (·.1):=by
 unfold jN;induction T generalizing t with
 |nil=>cases t<;>rfl
 |cons x r j=>
  cases t with
  |zero=>simp
  |succ t=>simpa using j t
theorem IV (T:DR) {t:Nat}(p:DW) (ht:t<T.length):((jN T t p).flatMap fun x=>x.2.map (·.1)).Perm (p.1::T.flatMap fun x=>x.2.map (·.1)):=by
 unfold jN;induction T generalizing t with
 |nil=>simp at ht
 |cons x r j=>
  cases t with
  |zero=>simp
  |succ t=>have:=j (t:=t) (by simpa using ht);simp only[List.modify_succ_cons,List.flatMap_cons];exact(List.Perm.append_left _ this).trans List.perm_middle
theorem Be {T:DR}{t:Nat}{p:DW}{x:Nat×List DW}(n:x∈jN T t p):(∃j,j≠t∧T[j]? =some x)∨ ∃y,T[t]? =some y∧x=(y.1,y.2++ [p]):=by
 obtain⟨j,l,rfl⟩:=List.getElem_of_mem n;simp only[jN,List.length_modify]at l;simp only[jN,List.getElem_modify];split
 ·rename_i e;subst e;exact .inr ⟨T[t],by simp[l],rfl⟩
 ·rename_i e;exact .inl ⟨j,fun o=>e o.symm,by simp[l]⟩
theorem La {T:DR}{t:Nat}{p:DW}{x:Nat×List DW}(ht:T[t]? =some x):(jN T t p).map pB=(T.map pB).set t (pB (x.1,x.2++ [p])):=by
 obtain⟨h1,h2⟩:=List.getElem?_eq_some_iff.1 ht;apply List.ext_getElem
 ·simp[jN]
 ·intro j a b;simp only[jN,List.getElem_map,List.getElem_modify,List.getElem_set];split
  ·rename_i e;subst e;rw[h2]
  ·rfl
variable {k:SK} {en:Int} {d:SD} {T:DR} {B τ:AS}
theorem DI.HF (h:DI k en d T B τ) {i:Nat}(j:τ i=none):¬i∈cm k T:=by
 intro n;simp only[cm,List.mem_cons,List.mem_append,List.mem_map,List.mem_flatMap]at n;rcases n with rfl|rfl|rfl|rfl|rfl|rfl|rfl|⟨x,l,rfl⟩|⟨x,l,p,o,rfl⟩
 ·rw[h.aF]at j;cases j
 ·rw[h.bj]at j;cases j
 ·rw[h.tS]at j;cases j
 ·rw[h.tL]at j;cases j
 ·rw[h.tN]at j;cases j
 ·rw[h.tB]at j;cases j
 ·rw[h.tC]at j;cases j
 ·rw[h.vX x l]at j;cases j
 ·rw[h.row x l p o]at j;cases j
theorem DI.dE (h:DI k en d T B τ):(T.map (·.1)++T.flatMap fun x=>x.2.map (·.1)).Nodup:=by have:=h.nd;simp only[cm,List.nodup_cons]at this;exact this.2.2.2.2.2.2.2
theorem DI.iW (h:DI k en d T B τ) {t:Nat}{p:DW}(ht:t<6) (hi:τ p.1=none) {x:Nat×List DW}(O:T[t]? =some x):
 DI k en d (jN T t p) B (((τ.set p.1 (mJ p)).set k.bj (.cells 94 ((T.map pB).set t (.ah 44 (x.2.map ud++ [ud p]) (.tok x.1) false)))).set x.1 (.tok (x.2.length+1))):=by
 have Y:B p.1=none:=by
  cases O:B p.1 with
  |none=>rfl
  |some y=>have:=h.le p.1 y O;rw[hi]at this;cases this
 have L:=h.own (b:=mJ p) hi;have P:=h.HF hi;obtain⟨u,Q,U,S,X,V,D,F,E,H,G,_⟩:=h.ne;have o:x∈T:=List.mem_of_getElem? O;obtain⟨x0,x1,x2,x3,x4,x5,x6⟩:=h.zr o;have ac:p.1≠k.bj:=fun e=>P (by simp[cm,e]);have ab:p.1≠x.1:=fun e=>P (by simp only[cm,List.mem_cons,List.mem_append,List.mem_map];exact .inr (.inr (.inr (.inr (.inr (.inr (.inr (.inl ⟨x,o,e.symm⟩))))))));have K:∀j,j≠k.bj→j≠x.1→(((τ.set p.1 (mJ p)).set k.bj (.cells 94 ((T.map pB).set t (.ah 44 (x.2.map ud++ [ud p]) (.tok x.1) false)))).set x.1 (.tok (x.2.length+1))) j=(τ.set p.1 (mJ p)) j:=
  fun j h1 h2=>by rw[AS.ag _ _ h2,AS.ag _ _ h1]
 have M:=List.nodup_append.1 h.dE;have I:(cm k (jN T t p)).Perm (p.1::cm k T):=by
  have h1:(T.map (·.1)++(jN T t p).flatMap fun x=>x.2.map (·.1)).Perm (p.1::(T.map (·.1)++T.flatMap fun x=>x.2.map (·.1))):=
   (List.Perm.append_left _ (IV T p (by rw[h.qj];exact ht))).trans List.perm_middle
  unfold cm;rw[IW];have h2:∀ {A C:List Nat} (y:Nat),A.Perm (p.1::C)→(y::A).Perm (p.1::y::C):=fun y Z=>(Z.cons y).trans (List.Perm.swap _ _ _);exact h2 _ (h2 _ (h2 _ (h2 _ (h2 _ (h2 _ (h2 _ h1))))))
 refine⟨?_,?_,?_,?_,?_,?_,?_,fun y hy=> ?_,fun y hy q v=> ?_,fun j b w=> ?_,by simpa[jN]using h.qj,I.nodup_iff.2 (List.nodup_cons.2 ⟨P,h.nd⟩),fun j w=> ?_⟩
 ·rw[K _ u x0.symm];exact L.aF
 ·rw[AS.ag _ _ x1.symm,AS.aD,La O];simp[pB]
 ·rw[K _ D.symm x2.symm];exact L.tS
 ·rw[K _ F.symm x3.symm];exact L.tL
 ·rw[K _ E.symm x4.symm];exact L.tN
 ·rw[K _ H.symm x5.symm];exact L.tB
 ·rw[K _ G.symm x6.symm];exact L.tC
 ·rcases Be hy with⟨j,w,l⟩|⟨y',l,rfl⟩
  ·have n:y∈T:=List.mem_of_getElem? l;have ai:y.1≠x.1:=by
    intro e;obtain⟨a1,a2⟩:=List.getElem?_eq_some_iff.1 l;obtain⟨b1,b2⟩:=List.getElem?_eq_some_iff.1 O;have Z:=List.pairwise_iff_getElem.1 M.1;rcases Nat.lt_or_gt_of_ne w with hlt|hlt
    ·exact Z j t (by simpa using a1) (by simpa using b1) hlt (by simp[a2,b2,e])
    ·exact Z t j (by simpa using b1) (by simpa using a1) hlt (by simp[a2,b2,e])
   rw[K _ (h.zr n).2.1 ai];exact L.vX y n
  ·rw[O]at l;cases l;rw[AS.aD];simp
 ·have old:∀y∈T,∀q∈y.2,q.1≠k.bj∧q.1≠x.1:=fun y n q v=>⟨(h.qn n v).2.1,fun e=>M.2.2 x.1 (List.mem_map.2 ⟨x,o,rfl⟩) q.1 (List.mem_flatMap.2 ⟨y,n,List.mem_map.2 ⟨q,v,rfl⟩⟩) e.symm⟩;rcases Be hy with⟨j,w,l⟩|⟨y',l,rfl⟩
  ·have n:y∈T:=List.mem_of_getElem? l;rw[K _ (old y n q v).1 (old y n q v).2];exact L.row y n q v
  ·rw[O]at l;cases l;rcases List.mem_append.1 v with v|v
   ·rw[K _ (old x o q v).1 (old x o q v).2];exact L.row x o q v
   ·simp at v;subst v;rw[K _ ac ab,AS.aD]
 ·have f1:=(h.I9).2.1;have f2:=h.fr x.1 (by simp only[cm,List.mem_cons,List.mem_append,List.mem_map];exact .inr (.inr (.inr (.inr (.inr (.inr (.inr (.inl ⟨x,o,rfl⟩))))))));rw[K _ (by rintro rfl;rw[f1]at w;cases w) (by rintro rfl;rw[f2]at w;cases w),AS.ag _ _ (by rintro rfl;rw[Y]at w;cases w)];exact h.le j b w
 ·rcases List.mem_cons.1 (I.mem_iff.1 w)with rfl|w
  ·exact Y
  ·exact h.fr j w
end Im
end Go.Proofs.YtknalmoackcpbaaGreat
namespace Go.Proofs.YtknalmoackcpbaaGreat
namespace Cd
def UB (idr:Nat) (size:Int) (A J:List Int) (ta tj:Nat):cL:=
 .cells 328 [.ptr idr 0,zI size,.ah 3 (A.map bg) (.tok ta) (decide (A= [])),.ah 3 (J.map bg) (.tok tj) (decide (J= []))]
section
variable (b:zY) (a:Nat) (nl:Bool) (idr idx ta tj:Nat) (A J:List Int) (size:Int) (σ:AS)
 (h1:σ idr=some (TQ b a nl)) (h2:σ idx=some (UB idr size A J ta tj)) (h3:σ ta=some (.tok A.length)) (h4:σ tj=some (.tok J.length))
 (hb:b.length≤140737488355328) (hlt:a<b.length)
include h1 h2 hb hlt
include h3 h4
end
end Cd
end Go.Proofs.YtknalmoackcpbaaGreat
namespace Go.Proofs.YtknalmoackcpbaaGreat
namespace Im
open Tryz
theorem gz (S:List Nat):cu prog [(7,(.S 0 (.S 1 (.S 2 (.S 4 (.S 5 (.S 6 (.S 7 (.R 8 (.A 3 (.A 9 (.S 10 (.S 11 (.A 12 .D .Z))) .Z) (.A 9 (.R 3 (.S 10 (.S 11 (.A 12 .D .Z)))) .Z)))))))))))] S:=mixed
open Sg (aE bL)
open Pl (sV)
open Cd (oO kS kV)
def ct:List Ty→List dM→List Ty×List dM
 |sp,[]=>(sp,[])
 |sp,x::r=>if oO x.op=8 then((ct (jJ sp x.t) r).1,⟨x.op,kU sp x.t,kS⟩::(ct (jJ sp x.t) r).2)else((ct sp r).1,x::(ct sp r).2)
theorem lj {α:Type}[DecidableEq α] (l:List α) (t:α):l.length≤(jJ l t).length∧(jJ l t).length≤l.length+1:=by unfold jJ;split<;>simp
variable {k:SK} {g:bZ} {d:SD} {T:SR} {B τ:AS}
theorem SI.wr (h:SI k g d T B τ) {i:Nat}{x b:cL}(v:B i=some x):SI k g d T (B.set i b) (τ.set i b):=by
 have w:∀j∈keys k T,j≠i:=by rintro j n rfl;rw[h.fr j n]at v;cases v
 have l:∀j∈keys k T,∀σ:AS,(σ.set i b) j=σ j:=fun j n σ=>AS.ag _ _ (w j n);have q:∀ {j:Nat},j∈T.map (·.1)++T.flatMap (fun x=>x.2.map (·.1))→j∈keys k T:=fun n=>by simp only[keys,List.mem_cons];simp only[n,or_true]
 exact⟨(l _ (by simp[keys]) _).trans h.aF,(l _ (by simp[keys]) _).trans h.bj,(l _ (by simp[keys]) _).trans h.tS,(l _ (by simp[keys]) _).trans h.tL,(l _ (by simp[keys]) _).trans h.tN,(l _ (by simp[keys]) _).trans h.tB,(l _ (by simp[keys]) _).trans h.tC,
  fun x o=>(l _ (q (List.mem_append_left _ (List.mem_map.2 ⟨x,o,rfl⟩))) _).trans (h.vX x o),fun x o p u=>(l _ (q (List.mem_append_right _ (List.mem_flatMap.2 ⟨x,o,List.mem_map.2 ⟨p,u,rfl⟩⟩))) _).trans (h.row x o p u),
  iM h.le,h.qj,h.nd,fun j n=>(l j n _).trans (h.fr j n)⟩
theorem SI.erase {i:Nat}{b:cL}(h:SI k g d T (B.set i b) τ) (D:B i=none):∃S:AS,S i=none∧τ=S.set i b∧SI k g d T B S:=by
 have w:τ i=some b:=h.le i b (by simp);have v:∀j∈keys k T,j≠i:=by rintro j l rfl;have:=h.fr j l;simp at this
 refine⟨fun j=>if j=i then none else τ j,by simp,?_,?_⟩
 ·funext j;by_cases e:j=i
  ·subst e;simp[AS.set,w]
  ·simp[AS.set,e]
 ·have n:∀j∈keys k T,(if j=i then none else τ j)=τ j:=fun j l=>if_neg (v j l);have q:∀ {j:Nat},j∈T.map (·.1)++T.flatMap (fun x=>x.2.map (·.1))→j∈keys k T:=fun l=>by simp only[keys,List.mem_cons];simp only[l,or_true]
  refine⟨(n _ (by simp[keys])).trans h.aF,(n _ (by simp[keys])).trans h.bj,(n _ (by simp[keys])).trans h.tS,(n _ (by simp[keys])).trans h.tL,(n _ (by simp[keys])).trans h.tN,(n _ (by simp[keys])).trans h.tB,(n _ (by simp[keys])).trans h.tC,
   fun x o=>(n _ (q (List.mem_append_left _ (List.mem_map.2 ⟨x,o,rfl⟩)))).trans (h.vX x o),fun x o p u=>(n _ (q (List.mem_append_right _ (List.mem_flatMap.2 ⟨x,o,List.mem_map.2 ⟨p,u,rfl⟩⟩)))).trans (h.row x o p u),
   fun j y l=> ?_,h.qj,h.nd,fun j l=> ?_⟩
  ·have e:j≠i:=nq D l;show(if j=i then none else τ j)=some y;rw[if_neg e];exact h.le j y (by rw[AS.ag _ _ e];exact l)
  ·have:=h.fr j l;rwa [AS.ag _ _ (v j l)]at this
theorem SI.my (h:SI k g d T B τ) {i:Nat}(j:τ i=none):B i=none:=iN h.le j
theorem FC (l:List dM) (own:cA) (j:0<l.length) (hl:l.length≤1000000) (σ:AS):
 ad prog 232 [kV l own false] σ (fun r τ=>GV prog 110 (l.map bJ) r σ τ) No:=by
 refine ad.ob func232 ?_;simp only[kV];refine gO (S:= [3]) aa @underlying50 tI ?_
 with_reducible apply aA.dB
 refine bQ.first 2 ?_;simp-implicitDefEqProofs;refine bQ.sp rfl (iD.K5 (by decide) 110 (l.map bJ) (nl:=false) (by simp) (by simp) (by simp) (by simp) (by simp) (by simp[cy,underlying50]) (by intro x n;obtain⟨y,_,rfl⟩:=List.mem_map.1 n;simp[bJ]) (by simpa using j) (by simp[fF];omega) (by simp;omega) ?_);intro v τ o;refine bQ.rest ?_;simp-implicitDefEqProofs;refine gO aa tI tI ?_;exact⟨_,_,Wk.refl _,lR _,o⟩
def Ta (k:SK) (g:bZ) (d:SD) (T:SR) (B:AS) (l:List dM) (r:AV) (j:AS):Prop:= ∃nl,(nl=true→(ct d.sp l).2= [])∧r=kV (ct d.sp l).2 .aJ nl∧SI k g { d with sp:=(ct d.sp l).1 } T B j
theorem SI.raw (h:SI k g d T B τ) (l:List dM) (am:0<l.length) (hl:l.length≤1000) (hd:d.sp.length≤90000):
 ad prog 185 [.ptr k.aF 0,kV l .aJ false] τ (Ta k g d T B l) No:=by
 have af:=fun(x:dM) σ=>Ed x.op σ;simp only[fO]at af;refine ad.ob func185 ?_;simp only[kV];refine gO gz tI tI ?_;have ap:=FC l .aJ am (by omega) τ;simp only[kV]at ap;refine aj.of ap ?_ (fun _ _ h=>h.elim);rintro r0 a0 hG;obtain⟨o,cap,n,h0,rfl,rfl,U,Q⟩:∃o cap n,τ o=none∧r0= .dg o 0 (l.map bJ).length cap∧a0=τ.set o (.cells 110 (aR (l.map bJ++n)))∧(∀x∈l.map bJ++n,x.cells.length=prog.cellsOf 110)∧(l.map bJ).length+n.length=cap:=by
  rcases hG with⟨h1,_,_⟩|hG
  ·exfalso;have:=congrArg List.length h1;simp at this;subst this;simp at am
  ·exact hG
 have bb:=iN h.le h0;simp-implicitDefEqProofs;simp only[List.length_map]at Q;refine gO gz tI tI ?_;refine aA.aY (α:=(Nat)×(List Ty)×(List dM)×(AS)) ((0,d.sp,[],τ.set o (.cells 110 (aR (l.map bJ++n))))) (fun⟨i,sp,q,y⟩=>l.length-i) (fun⟨i,sp,q,y⟩=>i≤l.length∧q.length=i∧SI k g { d with sp:=sp } T (B.set o (.cells 110 (aR ((q++l.drop i).map bJ++n)))) y∧ct d.sp l=((ct sp (l.drop i)).1,q++(ct sp (l.drop i)).2)∧sp.length≤d.sp.length+i) [(0,?_),(4,?_),(5,?_),(12,?_),(13,?_)] (fun⟨i,sp,q,y⟩=> [(14,zI i)]) (fun⟨i,sp,q,y⟩=>y) ?_ ?_ ?_ ?_;rotate_left 5
 ·exact gF tI
 ·(try dsimp only);exact lR _
 ·exact⟨by omega,rfl,by simpa using h.own h0,by simp,by simp⟩
 intro x_ ac;obtain⟨i,sp,q,y⟩:=x_;try dsimp only at ac⊢
 obtain⟨hi,G,L,K,b1⟩:=ac;simp only[fm];by_cases hlt:i<l.length
 ·have E:zW ((i:Int)+1)=((i+1:Nat):Int):=bh (by omega);rw[List.drop_eq_getElem_cons hlt]at K L;simp only[ct]at K;have hlen:((q++l[i]::l.drop (i+1)).map bJ++n).length=cap:=by simp;omega
  have H:∀(z:dM) v,v∈(q++z::l.drop (i+1)).map bJ++n→v.cells.length=6:=by
   intro z v F;rcases List.mem_append.1 F with F|F
   ·obtain⟨w,_,rfl⟩:=List.mem_map.1 F;rfl
   ·exact(U v (by simp[F])).trans (by simp)
  generalize hx:l[i]=x at*;have a2:(gZ x.op).2.1=oO x.op:=rfl;have P:=af x;have a8:i<((q++x::l.drop (i+1)).map bJ++n).length:=by simp;omega
  have b2:i*6+6≤(aR ((q++x::l.drop (i+1)).map bJ++n)).length:=by rw[eU (H x)];omega
  have O:∀z:dM,(aR ((q++x::l.drop (i+1)).map bJ++n)).take (i*6)++((bJ z).cells++(aR ((q++x::l.drop (i+1)).map bJ++n)).drop (i*6+6))=aR ((q++ [z]++l.drop (i+1)).map bJ++n):=by intro z;rw[Fg (H x) a8 (v:=bJ z) rfl];congr 1;rw[List.set_append_left _ _ (by simp;omega)];congr 1;rw[←List.map_set];congr 1;rw[List.set_append_right _ _ (by omega)];simp[G]
  have ak:∀z:dM,aR (List.map bJ (q++ [z])++(List.drop (i+1) (List.map bJ l)++n))=aR ((q++ [z]++l.drop (i+1)).map bJ++n):=by intro z;simp[List.map_drop]
  have al:q++ [x]++l.drop (i+1)=q++x::l.drop (i+1):=by simp
  generalize a9:aR ((q++x::l.drop (i+1)).map bJ++n)=V at*;rw[a2]at P;refine gO gz (j4 hlt @hx @eu @ae) tI ?_;intro ab u;have ax:=L.own (b:= .cells 110 (bJ x).cells) u;simp only[eu,bq]at ax;refine gO gz tI @P ?_;intro M j I;have D:=ba j;have av:=ax.own (i:=M) (b:= .cells 194 [.sc (.string ⟨(gZ x.op).1.toArray⟩),zI (oO x.op),zI ((gZ x.op).2.2)]) (by simpa[AS.set,j]using I);have a4:o≠ab:=by rintro rfl;have:=L.le o _ (AS.aD _ _ _);rw[u]at this;cases this
  have Y:y M=none:=by simpa[AS.set,j]using I
  have a3:o≠M:=by rintro rfl;have:=L.le o _ (AS.aD _ _ _);rw[Y]at this;cases this
  by_cases h8:oO x.op=8
  ·rw[if_pos h8]at K;rw[h8]at av;refine gO gz (j3 @h8 @E j) tI ?_;have hp:=av.put x.t (by simp;omega);simp only[aE]at hp
   repeat' (with_reducible apply j2)
   all_goals
    refine aj.of hp ?_ (fun _ _ h=>h.elim);rintro r Z ⟨rfl,h2⟩;have ar:SI k g { d with sp:=jJ sp x.t } T (B.set o (.cells 110 (V.take (i*6)++((bJ ⟨x.op,kU sp x.t,kS⟩).cells++V.drop (i*6+6))))) (Z.set o (.cells 110 (V.take (i*6)++((bJ ⟨x.op,kU sp x.t,kS⟩).cells++V.drop (i*6+6))))):=by have h3:=(h2.drop (AS.ao (AS.ao (lR _) (L.my u)) (L.my Y))).wr (i:=o) (b:= .cells 110 (V.take (i*6)++((bJ ⟨x.op,kU sp x.t,kS⟩).cells++V.drop (i*6+6)))) (AS.aD _ _ _);rwa [AS.set_set]at h3
    have ro:=h2.le o _ (by rw[AS.ag _ _ a3,AS.ag _ _ a4,AS.aD]);have r7:=h2.le ab _ (by rw[AS.ag _ _ D,AS.aD]);have r8:=h2.le M _ (AS.aD _ _ _);simp-implicitDefEqProofs [ro,r7];refine gO gz @E tI ?_;refine aH.mk ((i+1,jJ sp x.t,q++ [⟨x.op,kU sp x.t,kS⟩],Z.set o (.cells 110 (V.take (i*6)++((bJ ⟨x.op,kU sp x.t,kS⟩).cells++V.drop (i*6+6)))))) (by(try dsimp only);omega) (gF tI) (by(try dsimp only);exact le_eq (by simp[bJ,kS])) ?_;try dsimp only
    have X:=lj sp x.t;refine⟨hlt,by simp[G],?_,by rw[K];simp,by omega⟩;rw[O]at ar;rw[ak,O];exact ar
  ·rw[if_neg h8]at K;refine gO gz (j3 @h8 @E j) tI ?_;refine aH.mk ((i+1,sp,q++ [x],y)) (by(try dsimp only);omega) (gF tI) (by(try dsimp only);exact aw (by simp[AS.set,j,Y]) (aw u (lR _))) ?_;try dsimp only
   refine⟨hlt,by simp[G],by rw[ak,al,a9];exact L,by rw[K];simp,by omega⟩
 ·have X:i=l.length:=by omega
  rw[List.drop_eq_nil_of_le (by omega)]at K L;simp only[ct,List.append_nil]at K L;refine gO (S:= [9]) gz (j2 hlt @ae) tI ?_;obtain⟨S,a6,rfl,a5⟩:=L.erase bb;refine aA.yJ 5 (e:=110) (es:=q.map bJ) (S:=S) (.inr ⟨o,cap,n,a6,by simp[G,X],rfl,fun v F=> ?_,by simp[G,X,Q]⟩) ?_
  ·rcases List.mem_append.1 F with F|F
   ·obtain⟨z,_,rfl⟩:=List.mem_map.1 F;simp[bJ]
   ·exact U v (by simp[F])
  intro a1 ai;refine gO gz tI tI ?_;exact⟨_,S,Wk.refl _,lR _,a1,fun e=>by rw[K];simpa using ai e,by rw[K];rfl,by rw[K];exact a5⟩
end Im
end Go.Proofs.YtknalmoackcpbaaGreat
namespace Go.Proofs.YtknalmoackcpbaaGreat
namespace Bd
open Tryz
structure R6 where
 kd:Int
 ta:Int
 tl:Int
 ha:Int
 hl:Int
 ex:Int
def lN (r:R6):List Int:= [r.kd,r.ta,r.tl,r.ha,r.hl,r.ex]
theorem qE (r:R6):(lN r).length=6:=rfl
def dx (r:R6):AV:= .agg [zI r.kd,zI r.ta,zI r.tl,zI r.ha,zI r.hl,zI r.ex]
def vZ (n:Int):Bool:=decide (0≤n)&&decide (n≤65535)
def zZ (r:R6):Bool:=(lN r).all vZ
def bP (code:zY) (cls:List R6):Bool:=decide (1≤code.length)&&(decide (code.length≤65535)&&(decide (cls.length≤6)&&cls.all zZ))
theorem uW (r:R6) (σ:AS):ad prog 245 [dx r] σ (aq (.agg ((lN r).map bg)) σ) No:=by obtain⟨a,b,c,d,e,f⟩:=r;refine ad.ob func245 ?_;simp only[dx];refine gO aa tI tI ?_;intro id n;refine gO aa tI tI ?_;intro o j l;refine gO aa j tI ?_;simp[lN,bg];all_goals (repeat (first|exact lR _ |refine aw (by simp[n,l,j]) ?_))
theorem uA (a b:Int) (σ:AS):ad prog 244 [zI a,zI b] σ (aq (.sc (.bool (decide (a<64)&&decide (b=0)))) σ) No:=by
 refine ad.ob func244 ?_
 repeat' (first
  |refine g1 ?_
  |((first|(with_reducible first|apply aA.fork|apply aA.region));simp-implicitDefEqProofs)
  |trivial
  |(with_reducible apply j2)
  |((with_reducible first|apply aA.ret|apply aA.skip|apply aA.exit);try simp-implicitDefEqProofs)
  |((with_reducible first|apply dd.split|apply bT.split|apply fS.split)<;>(intro j;(try simp-implicitDefEqProofs only[j]);(try simp at j))<;>try simp-implicitDefEqProofs))
 all_goals exact gJ tI
def Rt (cls:List R6) (nl:Bool) (o:cA) (σ:AS) (m:Nat) (fr:Fr) (σ':AS):Prop:=
 ∃i:Nat,m=cls.length-i∧i≤cls.length∧cls.all zZ=(cls.drop i).all zZ∧σ'=σ∧
  fr=gD [(24,.ah 221 (cls.map dx) o nl),(25,zI cls.length),(26,zI i)]
def Up (cls:List R6) (nl:Bool) (o:cA) (σ:AS) (i:Nat) (l:List Int) (m:Nat) (fr:Fr) (σ':AS):Prop:=
 ∃k:Nat,m=6-k∧k≤6∧l.all vZ=(l.drop k).all vZ∧σ'=σ∧
  fr=gD [(24,.ah 221 (cls.map dx) o nl),(25,zI cls.length),(26,zI i),(31,.agg (l.map bg)),(32,zI k)]
theorem mg (code:zY) (cls:List R6) (H w:cA) (n1 n2:Bool) (hc:code.length≤140737488355328) (hk:cls.length≤140737488355328) (σ:AS):
 ad prog 243 [.agg [.ah 5 (code.map u8) H n1,.ah 221 (cls.map dx) w n2]] σ (aq (.sc (.bool (bP code cls))) σ) No:=by
 refine ad.ob func243 ?_;refine gO aa tI tI ?_;intro id V;by_cases Z:1≤code.length
 ·by_cases Y:code.length≤65535
  ·by_cases X:cls.length≤6
   ·have u:((code.length:Int)<1)=False:=by simp;omega
    have F:(65535<(code.length:Int))=False:=by simp;omega
    have P:(6<(cls.length:Int))=False:=by simp;omega
    have o:bP code cls=cls.all zZ:=by simp[bP,Z,Y,X]
    rw[o];refine gO aa (j3 @u @F @P) tI ?_;refine aA.cz (Rt cls n2 w (σ.set id (.cells 219 [.ah 5 (code.map u8) H n1,.ah 221 (cls.map dx) w n2]))) (k0:=cls.length) ⟨0,by omega,by omega,rfl,rfl,rfl⟩ (aP.mk (by simp)) (lR _) ?_;rintro m fr σ' ⟨i,hm,hi,j,rfl,rfl⟩;by_cases hlt:i<cls.length
    ·obtain⟨r,hg,hd,U,_⟩:=dK cls hlt;have M:((i:Int)<cls.length)=True:=by simp;omega
     rw[hd]at j;have D:dx r= .agg [zI r.kd,zI r.ta,zI r.tl,zI r.ha,zI r.hl,zI r.ex]:=rfl;have hn:=fun σ=>uW r σ;have I:=qE r;have O:zZ r=(lN r).all vZ:=rfl;rw[List.all_cons,O]at j;simp only[D]at hn;generalize lN r=l at hn I j;refine gO aa (j3 M @hg @D) tI ?_;intro ac v L;refine gO aa tI @hn ?_;refine aA.cz (Up cls n2 w (σ.set id (.cells 219 [.ah 5 (code.map u8) H n1,.ah 221 (cls.map dx) w n2])) i l) (k0:=6) ⟨0,by omega,by omega,rfl,rfl,rfl⟩ (aP.mk (by simp)) (aw (by simp[*]) (lR _)) ?_;rintro m2 fr Q ⟨k,af,ai,q,rfl,rfl⟩;by_cases ak:k<6
     ·obtain⟨x,n,K,_,_⟩:=dK l (i:=k) (by omega);have E:((k:Int)<6)=True:=by simp;omega
      rw[K]at q;rw[List.all_cons]at q;by_cases G:x<0
      ·have y:vZ x=false:=by simp[vZ];omega
       refine gO aa (j4 @E @n @G @aG) tI ?_;simp[j,q,y];all_goals (repeat (first|exact lR _ |refine aw (by simp[*]) ?_))
      ·by_cases S:65535<x
       ·have y:vZ x=false:=by simp[vZ];omega
        refine gO aa (j5 @E @n @G @S @aG) tI ?_;simp[j,q,y];all_goals (repeat (first|exact lR _ |refine aw (by simp[*]) ?_))
       ·have y:vZ x=true:=by simp[vZ];omega
        refine gO aa (j5 @E @n @G @S @aG) tI ?_;refine⟨m2-1,_,_,by omega,aP.mk ?_,lR _,k+1,by omega,by omega,by rw[q,y,Bool.true_and],rfl,rfl⟩;simp[dv (show k<4000000000000000000 by omega)]
     ·have E:((k:Int)<6)=False:=by simp;omega
      have:l.drop k= []:=List.drop_eq_nil_of_le (by omega);rw[this]at q;refine gO aa @E tI ?_;refine⟨m-1,_,_,by omega,aP.mk ?_,lR _,i+1,by omega,by omega,by rw[j,q];simp,rfl,rfl⟩;simp[dv (show i<4000000000000000000 by omega)]
    ·have M:((i:Int)<cls.length)=False:=by simp;omega
     have:cls.drop i= []:=List.drop_eq_nil_of_le (by omega);rw[this]at j;refine gO aa M tI ?_;simp[j];all_goals (repeat (first|exact lR _ |refine aw (by simp[*]) ?_))
   ·have u:((code.length:Int)<1)=False:=by simp;omega
    have F:(65535<(code.length:Int))=False:=by simp;omega
    have P:(6<(cls.length:Int))=True:=by simp;omega
    have o:bP code cls=false:=by simp[bP,X]
    rw[o];refine gO aa (j3 @u @F @P) tI ?_;all_goals (repeat (first|exact lR _ |refine aw (by simp[*]) ?_))
  ·have u:((code.length:Int)<1)=False:=by simp;omega
   have F:(65535<(code.length:Int))=True:=by simp;omega
   have o:bP code cls=false:=by simp[bP,Y]
   rw[o];refine gO aa (j2 @u @F) tI ?_;all_goals (repeat (first|exact lR _ |refine aw (by simp[*]) ?_))
 ·have u:((code.length:Int)<1)=True:=by simp;omega
  have o:bP code cls=false:=by simp[bP,Z]
  rw[o];refine gO aa @u tI ?_;all_goals (repeat (first|exact lR _ |refine aw (by simp[*]) ?_))
def kW (r:R6):zY:=(lN r).flatMap fun n=>aS n 2
def pU (l:zY):zY:=l++List.replicate ((4-l.length%4)%4) 0
def sM (c:Nat) (code:zY):zY:= [UInt8.ofNat c,0,0,0]++aS code.length 4++code
def b8 (code:zY) (cls:List R6):zY:=
 if cls= []then(if code.length<64 then UInt8.ofNat (4*code.length+2)::code else sM 3 code)
 else pU (sM 11 code)++ [1,UInt8.ofNat cls.length,0,0]++cls.flatMap kW
theorem zk (code:zY) (u q:cA) (n1 n2:Bool) (F:bP code []=true) (v:code.length<64) (σ:AS):
 ad prog 190 [.agg [.ah 5 (code.map u8) u n1,.ah 221 [] q n2]] σ
  (gy (fun o=> .cp [.ah 5 ((b8 code []).map u8) (.tok o) false,zI 0]) (b8 code []).length σ) No:=by
 have h1:=fun σ=>mg code [] u q n1 n2 (by omega) (by simp) σ;simp only[List.map_nil]at h1;rw[F]at h1;have G:((code.length:Int)<64)=True:=by simp;omega
 have E:zW ((code.length:Int)*4)=code.length*4:=aI (by omega) (by omega);have D:D5 64 ((code.length:Int)*4) 2=code.length*4+2:=pV 2 (by omega) (by omega) (c:=code.length) (by omega) (by omega) (by omega);have y:zW ((code.length:Int)*4+2)=code.length*4+2:=aI (by omega) (by omega);have w:IntKind.u8.wrap ((code.length:Int)*4+2)=((UInt8.ofNat (4*code.length+2)).toNat:Int):=by rw[nO];simp;omega
 refine ad.ob func190 ?_;refine gO aa tI tI ?_;intro id n;refine gO aa (j7 @G @E @D @y @w @underlying3 @underlying5) (j2 @h1 @uA) ?_;intro o j l;refine gO aa tI tI ?_;refine aW o l (du (by simp[b8,v])) ?_;simp[b8,v];exact dP (aw n (lR _)) (by omega)
theorem Eg (code:zY) (u q:cA) (n1 n2:Bool) (D:bP code []=true) (y:¬code.length<64) (G:code.length≤65535) (σ:AS):
 ad prog 190 [.agg [.ah 5 (code.map u8) u n1,.ah 221 [] q n2]] σ
  (gy (fun o=> .cp [.ah 5 ((b8 code []).map u8) (.tok o) false,zI 0]) (b8 code []).length σ) No:=by
 have h1:=fun σ=>mg code [] u q n1 n2 (by omega) (by simp) σ;simp only[List.map_nil]at h1;rw[D]at h1;have F:((code.length:Int)<64)=False:=by simp;omega
 have w:IntKind.u64.wrap (code.length:Int)=code.length:=gM (by omega) (by omega);have v:=fun σ=>mS [3,0,0,0] .full false (by simp) (by simp) code.length 4 (by omega) (by omega) (by decide) σ;simp only[List.map_cons,List.map_nil,uu]at v;have hb:=an code.length 4;have E:b8 code []= [3,0,0,0]++aS code.length 4++code:=by simp[b8,y,sM]
 rw[E];refine ad.ob func190 ?_;refine gO aa tI tI ?_;intro id n;refine gO aa (j4 @F @w @underlying3 @underlying137) (j3 @h1 @uA @v) ?_;intro o j l;generalize aS code.length 4=pb at hb⊢;refine gO aa j tI ?_;refine aW o l (du (by simp)) ?_;simp[hb];exact dP (aw n (lR _)) (by omega)
theorem xf (l:zY) (h:¬l.length%4=0):pU (l++ [0])=pU l:=by
 unfold pU;have e:(4-l.length%4)%4=(4-(l++ [(0:UInt8)]).length%4)%4+1:=by simp;omega
 rw[e,List.replicate_succ,List.append_assoc];rfl
theorem xg (l:zY) (h:l.length%4=0):pU l=l:=by unfold pU;simp[h]
theorem mq (l:zY):(pU l).length=(l.length+3)/4*4:=by unfold pU;simp;omega
theorem qU (r:R6):(kW r).length=12:=by simp[kW,lN,an]
theorem AI (l:List R6):(l.flatMap kW).length=12*l.length:=by
 induction l with
 |nil=>rfl
 |cons r t j=>simp[qU,j];omega
theorem zX {r:R6}(h:zZ r=true):∀x∈lN r,0≤x∧x≤65535:=by intro x j;have:=List.all_eq_true.1 h x j;simpa[vZ]using this
def Ug (cls:List R6) (o:cA) (nl:Bool) (id:Nat) (L:zY) (B:AS) (m:Nat) (fr:Fr) (σ':AS):Prop:=
 ∃(l:zY) (j:Nat),pU l=L∧m=(4-l.length%4)%4∧l.length≤L.length∧B j=none∧σ'=B.set j (.tok l.length)∧
  fr=gD [(1,.ptr id 0),(4,.ah 5 (l.map u8) (.tok j) false)]
def Uh (cls:List R6) (o:cA) (nl:Bool) (L:zY) (B:AS) (m:Nat) (fr:Fr) (σ':AS):Prop:=
 ∃(i:Nat) (j:Nat),m=cls.length-i∧i≤cls.length∧B j=none∧σ'=B.set j (.tok (L++(cls.take i).flatMap kW).length)∧
  fr=gD [(4,.ah 5 ((L++(cls.take i).flatMap kW).map u8) (.tok j) false),(69,.ah 221 (cls.map dx) o nl),(70,zI cls.length),(71,zI i)]
def Ro (cls:List R6) (o:cA) (nl:Bool) (L:zY) (B:AS) (i:Nat) (l:List Int) (m:Nat) (fr:Fr) (σ':AS):Prop:=
 ∃(k:Nat) (j:Nat),m=6-k∧k≤6∧B j=none∧σ'=B.set j (.tok (L++(l.take k).flatMap (aS · 2)).length)∧
  fr=gD [(4,.ah 5 ((L++(l.take k).flatMap (aS · 2)).map u8) (.tok j) false),(69,.ah 221 (cls.map dx) o nl),(70,zI cls.length),(71,zI i),
   (76,.agg (l.map bg)),(77,zI k)]
theorem Ef (code:zY) (cls:List R6) (H D:cA) (n1 n2:Bool) (hr:bP code cls=true) (K:cls≠ []) (σ:AS):
 ad prog 190 [.agg [.ah 5 (code.map u8) H n1,.ah 221 (cls.map dx) D n2]] σ
  (gy (fun j=> .cp [.ah 5 ((b8 code cls).map u8) (.tok j) false,zI 0]) (b8 code cls).length σ) No:=by
 obtain⟨g1,g2,g3,g4⟩:1≤code.length∧code.length≤65535∧cls.length≤6∧ ∀r∈cls,zZ r=true:=by simpa[bP]using hr
 have h1:=fun σ=>mg code cls H D n1 n2 (by omega) (by omega) σ;rw[hr]at h1;have al:(cls= [])=False:=by simp[K]
 have a9:(0<cls.length)=True:=by have:=List.length_pos_iff.2 K;simp;omega
 have w1:IntKind.u64.wrap (code.length:Int)=code.length:=gM (by omega) (by omega);have hp:=fun σ=>mS [11,0,0,0] .full false (by simp) (by simp) code.length 4 (by omega) (by omega) (by decide) σ;simp only[List.map_cons,List.map_nil,uu]at hp;have hb:=an code.length 4;have hW:b8 code cls=pU ([11,0,0,0]++aS code.length 4++code)++ [1,UInt8.ofNat cls.length,0,0]++cls.flatMap kW:=by simp[b8,K,sM]
 rw[hW];generalize u:pU ([11,0,0,0]++aS code.length 4++code)=L;refine ad.ob func190 ?_;refine gO aa tI tI ?_;intro id ai;refine gO (S:= [5,8]) aa @al (j2 @h1 @uA) ?_
 with_reducible apply aA.dB
 refine bQ.sp rfl (iD.kI (by decide) ?_);simp-implicitDefEqProofs [bF];intro a0 y a8;refine bQ.rest ?_;simp-implicitDefEqProofs;refine gO (S:= [5,8]) aa (j2 @a9 y) tI ?_;refine aA.freeze 4 a0 (([11,0,0,0]:zY).map u8) (m:=4) (by simp) (by simp[*]) (by simp) (by simp) (by simp) ?_;simp-implicitDefEqProofs;refine gO aa (j3 @w1 @underlying3 @underlying137) @hp ?_;intro j q F;clear hp;generalize aS code.length 4=pb at hb u⊢;refine gO aa (j3 @al @hb q) tI ?_;have hB:∀j,¬j=id→σ j=none→(σ.set id (.cells 219 [.ah 5 (code.map u8) H n1,.ah 221 (cls.map dx) D n2])) j=none:=by intro j h1 h2;simp[h1,h2]
 have av:(σ.set id (.cells 219 [.ah 5 (code.map u8) H n1,.ah 221 (cls.map dx) D n2])) id=some (.cells 219 [.ah 5 (code.map u8) H n1,.ah 221 (cls.map dx) D n2]):=by simp
 have ar:AS.le σ (σ.set id (.cells 219 [.ah 5 (code.map u8) H n1,.ah 221 (cls.map dx) D n2])):=aw ai (lR _);have P:∀j,(σ.set id (.cells 219 [.ah 5 (code.map u8) H n1,.ah 221 (cls.map dx) D n2])) j=none→ ¬j=id∧ ¬id=j∧σ j=none:=by intro j h;simp at h;exact⟨h.1,fun e=>h.1 e.symm,h.2⟩
 have o:=hB j q F;generalize (σ.set id (.cells 219 [.ah 5 (code.map u8) H n1,.ah 221 (cls.map dx) D n2]))=B at*;have bb:(([11,0,0,0]++pb++code:zY)).length=8+code.length:=by simp[hb];omega
 refine aA.cz (Ug cls D n2 id L B) ⟨[11,0,0,0]++pb++code,j,u,rfl,by rw[←u,mq];omega,o,rfl,rfl⟩ (aP.mk (by simp)) (dP (lR _) (by simp[hb];try omega)) ?_;have ck:L.length≤65600:=by rw[←u,mq];omega
 clear bb hb u hW;rintro m fr σ' ⟨l,j,v,hm,hlen,o,rfl,rfl⟩;obtain⟨E,w,_⟩:=P j o;have e4:((l.length:Int)).tmod 4=((l.length%4:Nat):Int):=by rw[Int.tmod_eq_emod_of_nonneg (by omega)];rfl
 by_cases hz:l.length%4=0
 ·rw[xg l hz]at v;subst v;have w5:IntKind.u8.wrap (cls.length:Int)=((UInt8.ofNat cls.length).toNat:Int):=by rw[nO];simp
  refine gO aa (j7 @e4 @hz @av @w @w5 @underlying3 @underlying5) tI ?_;have ap:(l++ [1,UInt8.ofNat cls.length,0,0]).length≤65604:=by simp;omega
  refine aA.cz (Uh cls D n2 (l++ [1,UInt8.ofNat cls.length,0,0]) B) (k0:=cls.length) ⟨0,j,by omega,by omega,o,rfl,rfl⟩ (aP.mk (by simp)) (dP (lR _) (by simp)) ?_;generalize am:l++ [1,UInt8.ofNat cls.length,0,0]=L at ap⊢;clear hm hz e4 E w hlen w5;rintro m fr σ' ⟨i,j,hm,hi,o,rfl,rfl⟩;obtain⟨E,w,_⟩:=P j o;by_cases hlt:i<cls.length
  ·obtain⟨r,hg,hd,af,I⟩:=dK cls hlt;have hI:((i:Int)<cls.length)=True:=by simp;omega
   have Z:dx r= .agg [zI r.kd,zI r.ta,zI r.tl,zI r.ha,zI r.hl,zI r.ex]:=rfl;have hn:=fun σ=>uW r σ;have a4:=qE r;have ac:=zX (g4 r af);have hE:kW r=(lN r).flatMap fun n=>aS n 2:=rfl;have hX:(L++(cls.take i).flatMap kW).length≤65676:=by rw[List.length_append,AI,List.length_take];omega
   have O:L++(cls.take (i+1)).flatMap kW=L++(cls.take i).flatMap kW++(lN r).flatMap fun n=>aS n 2:=by rw[I,List.flatMap_append,←List.append_assoc];simp[hE]
   simp only[Z]at hn;generalize lN r=G at hn a4 ac O;generalize L++(cls.take i).flatMap kW=X at hX O⊢;refine gO aa (j3 hI @hg @Z) tI ?_;intro ca U a7;refine gO aa tI @hn ?_;refine aA.cz (Ro cls D n2 X B i G) (k0:=6) ⟨0,j,rfl,by omega,o,rfl,rfl⟩ (aP.mk (by simp)) (aw (by simp[*]) (dP (lR _) (by simp))) ?_;clear E w;rintro m2 fr bv ⟨k,j,cb,cc,o,rfl,rfl⟩;have ci:(X++(G.take k).flatMap (aS · 2)).length≤65700:=by
    have:∀l:List Int,(l.flatMap (aS · 2)).length=2*l.length:=by
     intro l;induction l with
     |nil=>rfl
     |cons a t ih=>simp[an]at ih⊢;omega
    rw[List.length_append,this,List.length_take];omega
   by_cases cd:k<6
   ·obtain⟨x,a5,ch,a3,a2⟩:=dK G (i:=k) (by omega);have hK:((k:Int)<6)=True:=by simp;omega
    obtain⟨x1,x2⟩:=ac x a3;have wx:IntKind.u64.wrap x=x:=gM (by omega) (by omega);have ak:X++(G.take (k+1)).flatMap (aS · 2)=X++(G.take k).flatMap (aS · 2)++aS x 2:=by rw[a2,List.flatMap_append,←List.append_assoc];simp
    have hp:=fun σ=>mS (X++(G.take k).flatMap (aS · 2)) (.tok j) false (by simp) (by omega) x 2 (by omega) (by omega) (by decide) σ;generalize X++(G.take k).flatMap (aS · 2)=Y at*;have a6:=an x 2;refine gO aa (j6 @hK @a5 @aG @wx @underlying3 @underlying137) @hp ?_;intro ay Q M;refine gO aa tI tI ?_;refine⟨m2-1,_,_,by omega,aP.mk ?_,?_,k+1,ay,by omega,by omega,M,rfl,rfl⟩
    ·rw[ak];simp[dv (show k<4000000000000000000 by omega)]
    ·rw[ak];exact dP (aw o (lR _)) (by simp[a6])
   ·have hK:((k:Int)<6)=False:=by simp;omega
    have V:G.take k=G:=List.take_of_length_le (by omega);rw[V];rw[←O];refine gO aa @hK tI ?_;refine⟨m-1,_,_,by omega,aP.mk ?_,dP (lR _) (by simp),i+1,j,by omega,by omega,o,rfl,rfl⟩;simp[dv (show i<4000000000000000000 by omega)]
  ·have hI:((i:Int)<cls.length)=False:=by simp;omega
   have:cls.take i=cls:=List.take_of_length_le (by omega);rw[this];obtain⟨_,_,F⟩:=P j o;refine gO aa hI tI ?_;refine aW j F (du (by simp[←am])) ?_;exact dP ar (by simp[←am];omega)
 ·have a1:((l.length:Int)%4=0)=False:=by simp;omega
  refine gO aa (j2 @e4 @a1) tI ?_;refine⟨m-1,_,_,by omega,aP.mk ?_,lR _,l++ [0],j,by rw[xf l hz];exact v,by simp;omega,by rw[←v,mq];simp;omega,o,by simp,rfl⟩;simp
end Bd
end Go.Proofs.YtknalmoackcpbaaGreat
