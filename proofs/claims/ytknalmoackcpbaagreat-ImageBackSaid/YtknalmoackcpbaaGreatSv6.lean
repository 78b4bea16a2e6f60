/- Chapter 10: a type is saved. -/
import Derived.Test.YtknalmoackcpbaaGreatSv2
set_option maxRecDepth 100000
set_option maxHeartbeats 3200000
set_option linter.all false
namespace Go.Proofs.YtknalmoackcpbaaGreat
namespace Im
open Go Go.AW
abbrev om:b7:=(.step 1 (.step 4 (.step 7 (.step 8 (.step 9 (.read 3 (.read 5 (.alt 0 (.alt 2 (.alt 6 (.spec 10 (.alt 11 .done .none) .none) .none) (.alt 6 (.read 2 (.spec 10 (.alt 11 .done .none) .none)) .none)) (.alt 2 (.alt 0 (.alt 6 (.spec 10 (.alt 11 .done .none) .none) .none) (.alt 6 (.alt 0 (.spec 10 (.alt 11 .done .none) .none) (.spec 10 (.read 0 (.alt 11 .done .none)) .none)) .none)) (.alt 6 (.read 2 (.alt 0 (.spec 10 (.alt 11 .done .none) .none) (.spec 10 (.read 0 (.alt 11 .done .none)) .none))) .none))))))))))
theorem vK (S:List Nat):aH Tryz.prog [] S:=mixed
theorem jC (S:List Nat):aH Tryz.prog [(6,om)] S:=mixed
open Sg (aD bL)
open Pl (sV)
def fq (l:List Int) (k:Int):Int:=((l.takeWhile (fun o=>decide (o<k))).length:Int)+1
theorem Ng {l:List Int}{k:Int}{i:Nat}(n:i≤l.length) (h1:∀j (v:j<l.length),j<i→l[j]<k) (h2:∀h:i<l.length,¬l[i]<k):(l.takeWhile (fun o=>decide (o<k))).length=i:=by
 induction l generalizing i with
 |nil=>simp at n;simp[n]
 |cons a r q=>
  cases i with
  |zero=>have:=h2 (by simp);simp at this;simp[List.takeWhile_cons,this]
  |succ i=>have h0:=h1 0 (by simp) (by omega);simp at h0;rw[List.takeWhile_cons];simp only[h0,decide_true,if_true,List.length_cons];rw[q (by simpa using n) (fun j v u=>by have:=h1 (j+1) (by simp;omega) (by omega);rwa [List.getElem_cons_succ]at this) (fun h=>by have:=h2 (by simp;omega);rwa [List.getElem_cons_succ]at this)]
theorem Cc (l:List Int) (k:Int) (D:AV) (σ:AS) (hl:l.length≤1000000) (hf:∀i (h:i<l.length),mX Tryz.prog σ D [.sc (.int .i64 i)] (.sc (.int .i64 l[i]))):
 aa Tryz.prog 131 [.sc (.int .i64 l.length),D,.sc (.int .i64 k)] σ (ao (.sc (.int .i64 (fq l k))) σ) No:=by
 refine aa.ob Tryz.func131 ?_;refine gO vK tI tI ?_;refine ae.bp (α:=(Nat)) (0) (fun i=>l.length-i) (fun i=>i≤l.length∧ ∀j (v:j<l.length),j<i→l[j]<k) [(0,?_),(1,?_),(2,?_),(6,?_)] (fun i=> [(7,.sc (.int .i64 i))]) (fun i=>σ) ?_ ?_ ?_ ?_;rotate_left 4
 ·exact gF tI
 ·exact gT
 ·exact⟨by omega,fun j _ v=>by omega⟩
 intro i q;try dsimp only at q⊢
 obtain⟨y,w⟩:=q;simp only[gj];by_cases hlt:i<l.length
 ·have n:IntKind.i64.wrap ((i:Int)+1)=((i+1:Nat):Int):=cv (by omega);have hu:=hf i hlt;by_cases o:l[i]<k
  ·repeat (first
    |(with_reducible first|apply ae.seq|apply ae.block|refine j2 (by first|omega|assumption|decide) ?_)
    |((first|(with_reducible first|apply ae.fork|apply ae.region|show aN _ _ _ |show aB _ _ _ _ _ _ _ _ _)|((with_reducible apply ag.id);first|apply (hu.use)));simp-implicitDefEqProofs [hlt,o,aI,mj,n])
    |((with_reducible first|apply ae.ret|apply ae.skip|apply ae.exit);try simp-implicitDefEqProofs [hlt,o,aI,mj,n]))
   refine aP.mk (i+1) (by(try dsimp only);omega) (gF tI) gT ?_;try dsimp only
   refine⟨hlt,fun j v E=> ?_⟩;by_cases e:j=i
   ·subst e;exact o
   ·exact w j v (by omega)
  ·rw[show fq l k=((i+1:Nat):Int) by rw[fq,Ng y w (fun _ =>o)];omega];repeat (first
    |(with_reducible first|apply ae.seq|apply ae.block|refine j2 (by first|omega|assumption|decide) ?_)
    |((first|(with_reducible first|apply ae.fork|apply ae.region|show aN _ _ _ |show aB _ _ _ _ _ _ _ _ _)|((with_reducible apply ag.id);first|apply (hu.use)));simp-implicitDefEqProofs [hlt,o,aI,mj,n])
    |((with_reducible first|apply ae.ret|apply ae.skip|apply ae.exit);try simp-implicitDefEqProofs [hlt,o,aI,mj,n]))
   all_goals (repeat' (with_reducible apply j2))
   all_goals exact gL tI
 ·have hw:fq l k=i+1:=by rw[fq,Ng y w (fun h=>absurd h hlt)]
  have u:IntKind.i64.wrap ((i:Int)+1)=(i:Int)+1:=ay (by omega) (by omega);refine gO vK (j3 hlt @u @aI) tI ?_;rw[hw];exact Wk.refl _
theorem K5 (g:bZ) (l:List AV) (j:l.length=11) (n:AV) (i:Nat) (o:i<g.fs.length) (aT id3:Nat) (σ:AS)
 (h:σ aT=some (.cells 74 (n:: .an 56 (g.fs.map ny) .aE g.fn::l))) (h3:σ id3=some (.cells 60 [.ptr aT 0])):
 aa Tryz.prog 132 [.sc (.int .i64 i),.ptr id3 0] σ (ao (.sc (.int .i64 g.fs[i].owner)) σ) No:=by
 generalize hf:g.fs[i]=f;refine aa.ob Tryz.func132 ?_;exact gE vK (j7 @o @hf @kD @aI @h @h3 @j) tI
theorem K4 (g:bZ) (l:List AV) (j:l.length=10) (o n:AV) (i:Nat) (q:i<g.ms.length) (aT id3:Nat) (σ:AS)
 (h:σ aT=some (.cells 74 (o::n:: .an 53 (g.ms.map jK) .aE g.mn::l))) (h3:σ id3=some (.cells 60 [.ptr aT 0])):
 aa Tryz.prog 133 [.sc (.int .i64 i),.ptr id3 0] σ (ao (.sc (.int .i64 g.ms[i].owner)) σ) No:=by
 generalize hf:g.ms[i]=f;refine aa.ob Tryz.func133 ?_;exact gE vK (j7 @q @hf @cY @aI @h @h3 @j) tI
def gg (k:Nat) (t:TD):List (List Int):=t.aZ.map fun x=> [(k:Int)+1,x+1]
theorem yb {α:Type}(l:List α) (i:Nat) (f h:α→α):(l.modify i f).modify i h=l.modify i (fun x=>h (f x)):=by
 apply List.ext_getElem
 ·simp
 ·intro j a b;simp only[List.getElem_modify];split<;>rfl
theorem modify_id {α:Type}(l:List α) (i:Nat):l.modify i (fun x=>x)=l:=by
 apply List.ext_getElem
 ·simp
 ·intro j a b;simp only[List.getElem_modify];split<;>rfl
theorem wP {l:List (List (List Int))}{t:Nat}{x:List (List Int)}{n m:Nat}(h:∀y∈l,y.length≤n) (hm:n+x.length≤m):∀y∈l.modify t (· ++x),y.length≤m:=by
 intro y o;obtain⟨j,i,rfl⟩:=List.getElem_of_mem o;simp only[List.getElem_modify];simp only[List.length_modify]at i;have:=h _ (List.getElem_mem i);split
 ·simp;omega
 ·omega
theorem fV.mk {P:Program}{α:Type}{I:α→Prop}{fr:α→List (Nat×AV)}{st:α→AS}{s:Fr}{σ:AS}(v:α) (h1:aS P s (jJ (fr v))) (h2:AS.le (st v) σ) (h3:I v):Sg.fV P I fr st s σ:=⟨v,h3,h1,h2⟩
theorem qG {σ τ:AS}{i:Nat}(h:AS.le σ τ) (l:τ i=none):σ i=none:=by
 cases j:σ i with
 |none=>rfl
 |some y=>have:=h i y j;rw[l]at this;cases this
theorem qA {T:SR}{n:Nat}(h:∀y∈cJ T,y.length≤n):∀x∈T,x.2.length≤n:=fun x i=>by have:=h _ (List.mem_map.2 ⟨x,i,rfl⟩);simpa using this
variable {k:SK} {g:bZ} {d:SD} {T:SR} {B τ:AS}
theorem SI.Wa (h:SI k g d T B τ) (n:Nat) (t:TD) (hk:n≤1000) (he: -1≤t.ext∧t.ext≤1000) (hf:t.aZ.length≤100) (af:∀x∈t.aZ,-1≤x∧x≤1000) (hd:d.nm.length≤90000) (hT:∀y∈cJ T,y.length≤90000) (bb:g.fs.length≤100000) (a8:g.ms.length≤100000):
 aa Tryz.prog 58 [.ptr k.aT 0,.sc (.int .i64 n),kE t] τ (fun r F=>r= .bQ []∧ ∃o,SI k g { d with nm:=d.nm++ [t.name] } o B F∧
  cJ o=((cJ T).modify 0 (· ++ [[t.flags,d.nm.length,4*(t.ext+1),fq (g.fs.map (·.owner)) n,fq (g.ms.map (·.owner)) n]])).modify 3 (· ++gg n t)) No:=by
 have am:=fun σ=>sJ 0 (t.ext+1) σ;have ap:t.ext≠ -1→(iW 0 (t.ext+1)).1=4*(t.ext+1):=fun h=>by unfold iW;rw[if_neg (by omega),if_neg (by omega),if_neg (by omega)];simp
 refine aa.ob Tryz.func58 ?_;simp only[eu];refine gO jC tI tI ?_;intro id3 E;refine gO jC tI tI ?_;intro id5 j D;have l:=aA j;have h1:=h.own (b:= .cells 60 [.ptr k.aT 0]) E;have h2:=h1.own (i:=id5) (b:= .cells 46 (kE t).cells) (by simpa[AS.set,j]using D);simp only[eu,aQ]at h2;have Y:((τ.set id3 (.cells 60 [.ptr k.aT 0])).set id5 (.cells 46 [.sc (.string ⟨t.name.toArray⟩),.sc (.int .i64 t.flags),.sc (.int .i64 t.ext),.an 3 (t.aZ.map iV) .aE t.fn])) id3=some (.cells 60 [.ptr k.aT 0]):=by simp[l]
 have g5:((τ.set id3 (.cells 60 [.ptr k.aT 0])).set id5 (.cells 46 [.sc (.string ⟨t.name.toArray⟩),.sc (.int .i64 t.flags),.sc (.int .i64 t.ext),.an 3 (t.aZ.map iV) .aE t.fn])) id5=some (.cells 46 [.sc (.string ⟨t.name.toArray⟩),.sc (.int .i64 t.flags),.sc (.int .i64 t.ext),.an 3 (t.aZ.map iV) .aE t.fn]):=by simp
 have hB:AS.le B ((B.set id3 (.cells 60 [.ptr k.aT 0])).set id5 (.cells 46 [.sc (.string ⟨t.name.toArray⟩),.sc (.int .i64 t.flags),.sc (.int .i64 t.ext),.an 3 (t.aZ.map iV) .aE t.fn])):=AS.ah (AS.ah (lR _) (qG h.le E)) (by simpa[AS.set,j]using qG h.le (i:=id5) (by simpa[AS.set,j]using D));have k3:((B.set id3 (.cells 60 [.ptr k.aT 0])).set id5 (.cells 46 [.sc (.string ⟨t.name.toArray⟩),.sc (.int .i64 t.flags),.sc (.int .i64 t.ext),.an 3 (t.aZ.map iV) .aE t.fn])) id3=some (.cells 60 [.ptr k.aT 0]):=by simp[l]
 have k5:((B.set id3 (.cells 60 [.ptr k.aT 0])).set id5 (.cells 46 [.sc (.string ⟨t.name.toArray⟩),.sc (.int .i64 t.flags),.sc (.int .i64 t.ext),.an 3 (t.aZ.map iV) .aE t.fn])) id5=some (.cells 46 [.sc (.string ⟨t.name.toArray⟩),.sc (.int .i64 t.flags),.sc (.int .i64 t.ext),.an 3 (t.aZ.map iV) .aE t.fn]):=by simp
 generalize ((τ.set id3 (.cells 60 [.ptr k.aT 0])).set id5 (.cells 46 [.sc (.string ⟨t.name.toArray⟩),.sc (.int .i64 t.flags),.sc (.int .i64 t.ext),.an 3 (t.aZ.map iV) .aE t.fn]))=S at*;generalize ((B.set id3 (.cells 60 [.ptr k.aT 0])).set id5 (.cells 46 [.sc (.string ⟨t.name.toArray⟩),.sc (.int .i64 t.flags),.sc (.int .i64 t.ext),.an 3 (t.aZ.map iV) .aE t.fn]))=A at*;have Z:=h2.aT;have u:=Z;simp only[eE]at u;have U:aa Tryz.prog 131 [.sc (.int .i64 g.fs.length),.fn (.func 132) [] [.ptr id3 0],.sc (.int .i64 n)] S (ao (.sc (.int .i64 (fq (g.fs.map (·.owner)) n))) S) No:=by simpa using Cc (g.fs.map (·.owner)) n (.fn (.func 132) [] [.ptr id3 0]) S (by simp;omega) (fun i hi=>mX.fn (by simpa using K5 g _ rfl _ i (by simpa using hi) k.aT id3 S Z Y))
 have Q:aa Tryz.prog 131 [.sc (.int .i64 g.ms.length),.fn (.func 133) [] [.ptr id3 0],.sc (.int .i64 n)] S (ao (.sc (.int .i64 (fq (g.ms.map (·.owner)) n))) S) No:=by simpa using Cc (g.ms.map (·.owner)) n (.fn (.func 133) [] [.ptr id3 0]) S (by simp;omega) (fun i hi=>mX.fn (by simpa using K4 g _ rfl _ _ i (by simpa using hi) k.aT id3 S Z Y))
 refine gO (S:= [2]) jC tI tI ?_
 (with_reducible apply ae.region);simp-implicitDefEqProofs [j,l,u,Y,g5]
 repeat (with_reducible refine j2 (by first|omega|assumption|decide) ?_)
 try (with_reducible apply ae.seq)
 refine Sg.xk (α:=Unit) (fun _ =>True) (fun _ => [(1,.sc (.int .i64 n)),(3,.ptr id3 0),(5,.ptr id5 0),(6,.sc (.int .i64 (4*(t.ext+1))))]) (fun _ =>S) ?_ ?_
 ·by_cases h0:0≤t.ext
  ·have hw:IntKind.i64.wrap (t.ext+1)=t.ext+1:=ay (by omega) (by omega);have hc:=ap (by omega);refine gO jC (j3 @h0 @hw @g5) @am ?_;refine fV.mk (()) (gF @hc) (by(try dsimp only);exact lR _) ?_;try dsimp only
  ·have hw:t.ext= -1:=by omega
   refine gO jC @h0 tI ?_;refine fV.mk (()) (gF @hw) (by(try dsimp only);exact lR _) ?_;try dsimp only
 rintro _ _;refine gO (S:= [6]) jC (j2 @u @Y) (j2 @U @Q) ?_;refine Sg.xk (α:=SR×AS) (fun v=>SI k g { d with nm:=d.nm++ [t.name] } v.1 A v.2∧cJ v.1=(cJ T).modify 0 (· ++ [[t.flags,d.nm.length,4*(t.ext+1),fq (g.fs.map (·.owner)) n,fq (g.ms.map (·.owner)) n]])) (fun v=> [(1,.sc (.int .i64 n)),(3,.ptr id3 0),(5,.ptr id5 0)]) (fun v=>v.2) ?_ ?_
 ·(((with_reducible apply ae.aR (id:=6) (t:=om));(exact mixed);kernel_rfl;kernel_rfl;(repeat (with_reducible first|apply ak.then|apply ak.block|apply ak.body|apply ak.no)));simp-implicitDefEqProofs [j,l,u,Y,g5])
  repeat' (with_reducible apply j2)
  all_goals
   refine ag.of (h2.name t.name (by omega)) ?_ (fun _ _ h=>h.elim);rintro r τ1 ⟨rfl,h3⟩;have K:=h3.le _ _ k3;have I:=h3.le _ _ k5;clear Z u U Q;simp-implicitDefEqProofs [K,I]
   repeat' (with_reducible apply j2)
   all_goals
    refine rz.ml ?_ ?_
    ·decide
    simp-implicitDefEqProofs [bH,ig,az];intro id w;have P:=h3.uw (t:=0) (vals:= [t.flags,d.nm.length,4*(t.ext+1),fq (g.fs.map (·.owner)) n,fq (g.ms.map (·.owner)) n]) (by omega) w (qA fun y hy=>Nat.le_trans (hT y hy) (by omega));simp only[List.map_cons,List.map_nil,aG,List.length_cons,List.length_nil,Nat.reduceAdd,Int.natCast_zero]at P;have m3:¬id3=id:=nq K w;have m5:¬id5=id:=nq I w;try simp-implicitDefEqProofs [m3,m5,K,I]
    refine ag.of P ?_ (fun _ _ h=>h.elim);rintro r τ2 ⟨rfl,h4⟩;simp-implicitDefEqProofs;refine fV.mk ((nD T 0 (id,[t.flags,d.nm.length,4*(t.ext+1),fq (g.fs.map (·.owner)) n,fq (g.ms.map (·.owner)) n]),τ2)) (gF tI) (by(try dsimp only);exact lR _) ?_;try dsimp only
    exact⟨h4,lJ _ _ _⟩
 ·rintro⟨T1,τ1⟩ ⟨h3,H⟩;simp only at h3 H⊢;have I:=h3.le _ _ k5;have X:∀y∈cJ T1,y.length≤90001:=by rw[H];exact wP hT (by simp)
  refine gO jC @I tI ?_;refine ae.bp (α:=(Nat)×(SR)×(AS)) ((0,T1,τ1)) (fun⟨i,o,F⟩=>t.aZ.length-i) (fun⟨i,o,F⟩=>i≤t.aZ.length∧SI k g { d with nm:=d.nm++ [t.name] } o A F∧cJ o=(cJ T1).modify 3 (· ++(gg n t).take i)) [(1,?_),(3,?_),(52,?_),(53,?_)] (fun⟨i,o,F⟩=> [(54,.sc (.int .i64 i))]) (fun⟨i,o,F⟩=>F) ?_ ?_ ?_ ?_;rotate_left 4
  ·exact gF tI
  ·(try dsimp only);exact lR _
  ·exact⟨by omega,h3,by simp[modify_id]⟩
  intro x_ L;obtain⟨i,o,F⟩:=x_;try dsimp only at L⊢
  obtain⟨hi,h4,G⟩:=L;simp only[gj];have K:=h4.le _ _ k3;by_cases hlt:i<t.aZ.length
  ·have q:IntKind.i64.wrap ((i:Int)+1)=((i+1:Nat):Int):=cv (by omega);have a9:=af t.aZ[i] (List.getElem_mem hlt);have al:(gg n t).take (i+1)=(gg n t).take i++ [[(n:Int)+1,t.aZ[i]+1]]:=by rw[List.take_succ_eq_append_getElem (by simpa[gg]using hlt)];simp[gg]
   have V:∀y∈cJ o,y.length≤100000:=by rw[G];exact wP X (by simp[gg];omega)
   have O:IntKind.i64.wrap ((n:Int)+1)=(n:Int)+1:=ay (by omega) (by omega);have M:IntKind.i64.wrap (t.aZ[i]+1)=t.aZ[i]+1:=ay (by omega) (by omega);repeat (first
    |(with_reducible first|apply ae.seq|apply ae.block|refine j2 (by first|omega|assumption|decide) ?_)
    |((first|(with_reducible first|apply ae.fork|((fail_if_success (apply ae.region (id:=10)));apply ae.region)|show aN _ _ _ |show aB _ _ _ _ _ _ _ _ _)|((with_reducible apply ae.aR (id:=6) (t:=om));(exact mixed);kernel_rfl;kernel_rfl;(repeat (with_reducible first|apply ak.then|apply ak.block|apply ak.body|apply ak.no))));simp-implicitDefEqProofs [hlt,iV,aI,mj,q])
    |((with_reducible first|apply ae.ret|apply ae.skip|apply ae.exit);try simp-implicitDefEqProofs [hlt,iV,aI,mj,q]))
   with_reducible apply ae.eX
   refine br.first 5 ?_;simp-implicitDefEqProofs [K,O,M];refine br.sp rfl (il.ml ?_ ?_)
   ·decide
   simp-implicitDefEqProofs [bH,ig,az,O,M];intro id w;have P:=h4.uw (t:=3) (vals:= [(n:Int)+1,t.aZ[i]+1]) (by omega) w (qA V);simp only[List.map_cons,List.map_nil,aG,List.length_cons,List.length_nil,Nat.reduceAdd,Int.cast_ofNat_Int]at P;refine br.rest ?_;simp-implicitDefEqProofs;refine ag.of P ?_ (fun _ _ h=>h.elim);rintro r τ2 ⟨rfl,h5⟩;simp-implicitDefEqProofs;refine gO jC @q tI ?_;refine aP.mk ((i+1,nD o 3 (id,[(n:Int)+1,t.aZ[i]+1]),τ2)) (by(try dsimp only);omega) (gF tI) (by(try dsimp only);exact lR _) ?_;try dsimp only
   refine⟨hlt,h5,?_⟩;rw[lJ,G,yb,al];simp
  ·refine gO jC (j2 hlt @aI) tI ?_;refine⟨_,F,Wk.refl _,lR _,rfl,o,h4.drop hB,?_⟩;rw[G,H,List.take_of_length_le (by simp[gg];omega)]
end Im
end Go.Proofs.YtknalmoackcpbaaGreat
namespace Go.Proofs.YtknalmoackcpbaaGreat
namespace Cd
open Go Go.AW
theorem dF (S:List Nat):aH Tryz.prog [(12,(.step 0 (.step 1 (.step 2 (.step 3 (.step 5 (.alt 4 (.alt 6 (.step 7 (.step 8 .done)) .none) (.alt 6 (.read 4 (.step 7 (.step 8 .done))) .none))))))))] S:=mixed
def HM (idr:Nat) (size:Int) (A J:List Int) (ta tj:Nat):bN:=
 .cells 328 [.ptr idr 0,.sc (.int .i64 size),.an 3 (A.map aV) (.tok ta) (decide (A= [])),.an 3 (J.map aV) (.tok tj) (decide (J= []))]
theorem oA (idr:Nat) (size:Int) (A J:List Int) (ta tj:Nat):HM idr size A J ta tj=
 .cells 328 [.ptr idr 0,.sc (.int .i64 size),.an 3 (A.map aV) (.tok ta) (decide (A= [])),.an 3 (J.map aV) (.tok tj) (decide (J= []))]:=rfl
theorem Ix {b:List UInt8}{a:Nat}(h:a<b.length):bj (cy b a 1)=((b.getD a 0).toNat:Int):=by
 have:cy b a (1:Nat)= [b.getD a 0]:=by rw[mZ];exact(FR h).2
 have e:cy b a 1= [b.getD a 0]:=this;rw[e];simp only[bj];omega
section
variable (b:List UInt8) (a:Nat) (nl:Bool) (idr idx ta tj:Nat) (A J:List Int) (size:Int) (σ:AS)
 (h1:σ idr=some (bC b a nl)) (h2:σ idx=some (HM idr size A J ta tj)) (h3:σ ta=some (.tok A.length)) (h4:σ tj=some (.tok J.length))
 (hb:b.length≤140737488355328) (hlt:a<b.length)
include h1 h2 hb hlt
theorem I8 (H:((b.getD a 0).toNat:Int)<1∨75<((b.getD a 0).toNat:Int)):
 aa Tryz.prog 251 [.ptr idx 0] σ (ao (.bQ [aJ ⟨0,0,eW⟩,.sc (.int .i64 a),.sc (.int .i64 2)]) (σ.set idr (bC b (a+1) nl))) No:=by
 have n:¬idr=idx:=nq h1 h2;have w:=aA n;have L:=fun σ h=>px idr b a nl σ h;have O:=fun σ h=>mc idr b a 1 nl σ h (by omega) (by omega) hb (by decide) (by omega);rw[Ix hlt]at O;have K:=fun σ=>sT (b.getD a 0).toNat σ;have I:DE ((b.getD a 0).toNat:Int)=3:=by unfold DE;rw[if_pos H]
 rw[I]at K;generalize b.getD a 0=c at*;have Q:=c.toNat_lt;have G:IntKind.i64.wrap (c.toNat:Int)=c.toNat:=ay (by omega) (by omega);simp only[jq]at K;rw[oA]at h2;refine aa.ob Tryz.func251 ?_;refine gO dF tI tI ?_;intro id v;have i:¬idr=id:=nq h1 v;have q:=aA i;have j:¬idx=id:=nq h2 v;have D:=aA j;refine gO dF (j7 @G @Tryz.underlying3 @Tryz.underlying137 @h1 @h2 i j) (j3 @L @O @K) ?_;intro F o l M;have y:=aA o;have u:=aA l;refine gO dF (j4 q i l u) tI ?_;simp[aJ,eW];intro E S P;by_cases X:E=idr<;>by_cases V:E=id<;>by_cases U:E=F<;>simp_all [AS.set]
theorem GD (ar:¬(((b.getD a 0).toNat:Int)<1∨75<((b.getD a 0).toNat:Int))) (hs:b.length<a+1+(dk (oO (b.getD a 0).toNat)).toNat):
 aa Tryz.prog 251 [.ptr idx 0] σ (ao (.bQ [aJ ⟨0,0,eW⟩,.sc (.int .i64 size),.sc (.int .i64 1)]) (σ.set idr (bC b (a+1) nl))) No:=by
 have F:¬idr=idx:=nq h1 h2;have E:=aA F;have a1:=fun σ h=>px idr b a nl σ h;have hn:=fun σ h=>mc idr b a 1 nl σ h (by omega) (by omega) hb (by decide) (by omega);rw[Ix hlt]at hn;have ho:=fun σ=>sT (b.getD a 0).toNat σ;have a0:DE ((b.getD a 0).toNat:Int)=0:=by unfold DE;rw[if_neg ar]
 rw[a0]at ho;generalize b.getD a 0=c at*;have a7:=c.toNat_lt;have ac:IntKind.i64.wrap (c.toNat:Int)=c.toNat:=ay (by omega) (by omega);have av:(nj (c.toNat:Int)).2.1=oO c.toNat:=rfl;simp only[jq]at ho;rw[av]at ho;have a6:=kM (c.toNat:Int);generalize oO (c.toNat:Int)=o at*;have ap:=qP o;have a4:=fg o;have U:wide (dk o)=true:=by
  have:o=0∨o=1∨o=2∨o=3∨o=4∨o=5∨o=6∨o=7∨o=8:=by omega
  rcases this with rfl|rfl|rfl|rfl|rfl|rfl|rfl|rfl|rfl<;>first|rfl|(simp[dk]at hs;omega)
 have hE:tJ b (a+1:Nat) (dk o)=1:=by simp[tJ,U];omega
 have V:=fun σ h=>vz idr b (a+1:Nat) (dk o) nl σ h (by omega) (by omega) hb (by omega);rw[hE]at V;have af:(0<dk o)=True:=eq_true (by omega);rw[oA]at h2;refine aa.ob Tryz.func251 ?_;refine gO dF tI tI ?_;intro id Q;have j:¬idr=id:=nq h1 Q;have K:=aA j;have i:¬idx=id:=nq h2 Q;have Z:=aA i;refine gO dF (j7 @ac @Tryz.underlying3 @Tryz.underlying137 @h1 @h2 j i) (j3 @a1 @hn @ho) ?_;intro ab I u Y;have G:=aA I;have L:=aA u;have n:¬idx=ab:=nq h2 Y;have S:=aA n;refine gO dF (j3 @ac @Tryz.underlying3 @Tryz.underlying137) tI ?_;intro P D y q M;have w:=aA D;have v:=aA y;have H:=aA q;have l:¬idx=P:=nq h2 M;have O:=aA l;have X:((a+1:Nat):Int)=(a:Int)+1:=by omega
 rw[X]at V;refine gO dF (j2 (j7 @af E @h2 K j i G) (j8 u L n w v q H l)) (j2 @ap @V) ?_;simp[aJ,eW];intro j_ y_ a3;by_cases e1:j_=idr<;>by_cases e2:j_=id<;>by_cases e3:j_=ab<;>by_cases e4:j_=P<;>simp_all [AS.set]
include h3 h4
theorem Ff (be:¬ta=tj) (hA:A.length≤1000) (hJ:J.length≤1000) (op o V T:Int) (cb:op=((b.getD a 0).toNat:Int)) (ch:o=oO op) (d7:bj (cy b ((a:Int)+1) (dk o))=V)
 (hT:T=if o=5 then(a:Int)+3+zE 2 V else 0) (eg:¬(op<1∨75<op)) (hs:(a:Int)+1+dk o≤b.length) (rb:Bool) (d3:gn ⟨op,eU o V,eW⟩=rb):
 aa Tryz.prog 251 [.ptr idx 0] σ (ao (if rb then .bQ [aJ ⟨op,eU o V,eW⟩,.sc (.int .i64 0),.sc (.int .i64 0)]else .bQ [aJ ⟨0,0,eW⟩,.sc (.int .i64 a),.sc (.int .i64 3)])
  (if rb then((((σ.set idr (bC b (a+1+dk o) nl)).set idx (HM idr size (A++ [(a:Int)]) (J++ [T]) ta tj)).set ta (.tok (A.length+1))).set tj (.tok (J.length+1)))else σ.set idr (bC b (a+1+dk o) nl))) No:=by
 have af:¬idr=idx:=nq h1 h2;have ac:=aA af;have bc:=aA be;have M:¬ta=idr:=nq h1 h3;have K:¬tj=idr:=nq h1 h4;have a0:¬ta=idx:=nq h2 h3;have I:¬tj=idx:=nq h2 h4;have b5:=aA M;have b4:=aA K;have a2:=aA a0;have a1:=aA I;have d6:=fun x σ h=>px idr b x nl σ h;have hn:=fun σ h=>mc idr b a 1 nl σ h (by omega) (by omega) hb (by decide) (by omega);rw[Ix hlt,←cb]at hn;have er:op<256:=by rw[cb];have:=(b.getD a 0).toNat_lt;omega
 clear cb;have hf:=fun σ=>sT op σ;have d5:DE op=0:=by unfold DE;rw[if_neg eg]
 rw[d5]at hf;have dp:IntKind.i64.wrap op=op:=ay (by omega) (by omega);have d4:(nj op).2.1=oO op:=rfl;simp only[jq]at hf;rw[d4,←ch]at hf;have ee:=kM op;rw[←ch]at ee;have H:=fun σ=>As ⟨op,eU o V,eW⟩ σ;simp only at H;rw[d3,←ch]at H;have av:=qP o;have a6:=fg o;have em:=eQ b (a+1) (dk o) (by omega) (by omega) (by omega);have ci:=cu (cy b ((a:Int)+1) (dk o));have j:=jk (cy b ((a:Int)+1) (dk o));rw[show(cy b ((a:Int)+1) (dk o)).length=(dk o).toNat by omega]at j;have i:wide (dk o)=true→ _ :=fun hw σ h=>mc idr b (a+1) (dk o) nl σ h (by omega) (by omega) hb hw (by omega);rw[d7]at ci j i;clear d3 ch d7 d4 d5;rw[oA]at h2;refine aa.ob Tryz.func251 ?_;refine gO dF tI tI ?_;intro id b1;have v:¬idr=id:=nq h1 b1;have a4:=aA v;have u:¬idx=id:=nq h2 b1;have a3:=aA u;have ab:¬ta=id:=nq h3 b1;have bv:=aA ab;have Z:¬tj=id:=nq h4 b1;have bs:=aA Z;refine gO dF (j7 @dp @Tryz.underlying3 @Tryz.underlying137 @h1 @h2 v u) (j3 (d6 a) @hn @hf) ?_;intro cd E P a8;have al:=aA E;have a5:=aA P;have D:¬idx=cd:=nq h2 a8;have b2:=aA D;have O:¬ta=cd:=nq h3 a8;have ca:=aA O;have L:¬tj=cd:=nq h4 a8;have b6:=aA L;refine gO dF (j3 @dp @Tryz.underlying3 @Tryz.underlying137) tI ?_;intro b3 X n F Y;have S:=aA X;have Q:=aA n;have am:=aA F;have l:¬idx=b3:=nq h2 Y;have U:=aA l;have y:¬ta=b3:=nq h3 Y;have ar:=aA y;have w:¬tj=b3:=nq h4 Y;have ap:=aA w;have F_:=(j2 (j7 @oA @aG b1 a8 Y af ac) (j2 (j7 be bc M K a0 I b5) (j2 (j7 b4 a2 a1 @h1 @h2 @h3 @h4) (j2 (j7 a4 v a3 u bv ab bs) (j2 (j7 Z E al P a5 b2 D) (j2 (j7 ca O b6 L X S n) (j2 (j7 Q F am U l ar y) (j2 ap w))))))));have ei:o=0∨o=1∨o=2∨o=3∨o=4∨o=5∨o=6∨o=7∨o=8:=by omega
 rcases ei with rfl|rfl|rfl|rfl|rfl|rfl|rfl|rfl|rfl;have dn:dk 0=0:=rfl;simp only[dn]at av hs i j a6⊢;have hz:V=0:=by simp at j;omega
 have G:T=0:=by simp[hT]
 subst G;have q:eU 0 V=0:=by simp[eU,hz]
 have a9:=tI;have bb:=tI;rw[q]at H⊢;rotate_left;have dl:dk 1=4:=rfl;simp only[dl]at av hs i j a6⊢;have i:=i (by decide);have G:T=0:=by simp[hT]
 subst G;have q:eU 1 V=zE 4 V:=by simp[eU]
 have b0:=fun σ=>tq V 4 (by omega) ci (by simpa using j) σ;simp only[Int.reduceToNat]at b0;have a9:=tI;have bb:=(j2 @i @b0);rw[q]at H⊢;rotate_left;have de:dk 2=8:=rfl;simp only[de]at av hs i j a6⊢;have i:=i (by decide);have G:T=0:=by simp[hT]
 subst G;have q:eU 2 V=zE 8 V:=by simp[eU]
 have b0:=fun σ=>tq V 8 (by omega) ci (by simpa using j) σ;simp only[Int.reduceToNat]at b0;have a9:=tI;have bb:=(j2 @i @b0);rw[q]at H⊢;rotate_left;have c9:dk 3=1:=rfl;simp only[c9]at av hs i j a6⊢;have i:=i (by decide);have G:T=0:=by simp[hT]
 subst G;have q:eU 3 V=V:=by simp[eU]
 simp at j;have a7:IntKind.i64.wrap V=V:=ay (by omega) (by omega);have a9:=(j3 @a7 @Tryz.underlying137 @Tryz.underlying2);have bb:= @i;rw[q]at H⊢;rotate_left;have c8:dk 4=1:=rfl;simp only[c8]at av hs i j a6⊢;have i:=i (by decide);have G:T=0:=by simp[hT]
 subst G;have q:eU 4 V=V:=by simp[eU]
 simp at j;have a7:IntKind.i64.wrap V=V:=ay (by omega) (by omega);have a9:=(j3 @a7 @Tryz.underlying137 @Tryz.underlying2);have bb:= @i;rw[q]at H⊢;rotate_left;have c7:dk 5=2:=rfl;simp only[c7]at av hs i j a6⊢;have i:=i (by decide);have q:eU 5 V=0:=by simp[eU]
 have b0:=fun σ=>tq V 2 (by omega) ci (by simpa using j) σ;simp only[Int.reduceToNat]at b0;simp at hT;have eo: -32768≤zE 2 V∧zE 2 V<65536:=by simp only[Int.reduceToNat,BD]at j;simp only[zE,BD];split<;>omega
 have ec:IntKind.i64.wrap ((a:Int)+1+2+zE 2 V)=T:=by rw[ay (by omega) (by omega),hT];omega
 have a9:= @ec;have bb:=(j3 @i @b0 (d6 (a+1+2)));rw[q]at H⊢;rotate_left;have c6:dk 6=2:=rfl;simp only[c6]at av hs i j a6⊢;have i:=i (by decide);have G:T=0:=by simp[hT]
 subst G;have q:eU 6 V=V-1:=by simp[eU]
 simp at j;have a7:IntKind.i64.wrap V=V:=ay (by omega) (by omega);have cl:IntKind.i64.wrap (V-1)=V-1:=ay (by omega) (by omega);have a9:=(j4 @a7 @cl @Tryz.underlying137 @Tryz.underlying2);have bb:= @i;rw[q]at H⊢;rotate_left;have c5:dk 7=2:=rfl;simp only[c5]at av hs i j a6⊢;have i:=i (by decide);have G:T=0:=by simp[hT]
 subst G;have q:eU 7 V=V-1:=by simp[eU]
 simp at j;have a7:IntKind.i64.wrap V=V:=ay (by omega) (by omega);have cl:IntKind.i64.wrap (V-1)=V-1:=ay (by omega) (by omega);have a9:=(j4 @a7 @cl @Tryz.underlying137 @Tryz.underlying2);have bb:= @i;rw[q]at H⊢;rotate_left;have c4:dk 8=2:=rfl;simp only[c4]at av hs i j a6⊢;have i:=i (by decide);have G:T=0:=by simp[hT]
 subst G;have q:eU 8 V=V:=by simp[eU]
 simp at j;have a7:IntKind.i64.wrap V=V:=ay (by omega) (by omega);have a9:=(j3 @a7 @Tryz.underlying137 @Tryz.underlying2);have bb:= @i;rw[q]at H⊢;rotate_left;all_goals
  simp only[aJ,eW]at H⊢;cases rb
 all_goals
  simp only[if_true,if_false,Bool.false_eq_true]at H⊢;refine gO dF (j2 @a9 (And.intro (j7 @h3 @h4 ac bc M K I) (And.intro (j7 a2 a1 @h2 a4 v a3 u) (And.intro (j7 bv ab bs Z E al P) (And.intro (j7 a5 D O L S n Q) (j8 F am U l ar y ap w)))))) (j3 @av @H @bb) ?_;intro j_ y_;refine gK F_ j_ idr fun c0=>gK F_ j_ id fun ea=>gK F_ j_ cd fun c1=>gK F_ j_ b3 fun cj=>gK F_ j_ idx fun cs=>gK F_ j_ ta fun d9=>gK F_ j_ tj fun d8=> ?_;intro c3;simp[AS.set,c0,ea,c1,cj,cs,d9,d8]at c3⊢;try exact c3
end
end Cd
end Go.Proofs.YtknalmoackcpbaaGreat
namespace Go.Proofs.YtknalmoackcpbaaGreat
namespace Cd
open Go Go.AW
theorem ub {e:TypeId}{es:List AV}{v:AV}{S τ:AS}{j:Nat}{x b:bN}(h:GV Tryz.prog e es v S τ) (n:S j=some x):GV Tryz.prog e es v (S.set j b) (τ.set j b):=by
 rcases h with⟨h1,h2,rfl⟩|⟨id,cap,l,h0,h1,rfl,h3⟩
 ·exact .inl ⟨h1,h2,rfl⟩
 ·have i:¬id=j:=nq h0 n;exact .inr ⟨id,cap,l,by simp[AS.set,i,h0],h1,AS.set_comm i,h3⟩
theorem JO {e t x:TypeId}{es:List AV}{v:AV}{S τ:AS}(h:GV Tryz.prog e es v S τ) (ht:Tryz.prog.underlying t=some (.slice x)) (i:AS) (K:AV→Prop):jL Tryz.prog i t v K=K (.sc (.int .i64 es.length)):=by
 rcases h with⟨h1,h2,rfl⟩|⟨id,cap,j,h0,h1,rfl,h3⟩
 ·subst h1 h2;simp[jL,ht]
 ·subst h1;simp[jL,ht]
theorem rO {m:Nat}{l:List AV}(h:∀v∈l,v.cells.length=m) {i j:Nat}(n:i<l.length) (E:j<m) {v w:AV}(o:v.cells=l[i].cells.set j w):
 (az l).take (i*m+j)++w::(az l).drop (i*m+j+1)=az (l.set i v):=by
 have h3:=h l[i] (List.getElem_mem n);obtain⟨h1,h2⟩:=uN h n;rw[←ue h n (v:=v) (by rw[o];simp[h3]),o];have u:(az l).take (i*m)=az (l.take i):=by rw[h1,List.take_append_of_le_length (by omega),List.take_of_length_le (by omega)]
 have q:(az l).drop (i*m+m)=az (l.drop (i+1)):=by rw[h1,←List.append_assoc,List.drop_append_of_le_length (by simp;omega),List.drop_eq_nil_of_le (by simp;omega),List.nil_append]
 rw[u,q,h1,List.set_eq_take_append_cons_drop,if_pos (by omega)];have D:(az (l.take i)++(l[i].cells++az (l.drop (i+1)))).take (i*m+j)=az (l.take i)++l[i].cells.take j:=by rw[←h2,List.take_length_add_append,List.take_append_of_le_length (by omega)]
 have y:(az (l.take i)++(l[i].cells++az (l.drop (i+1)))).drop (i*m+j+1)=l[i].cells.drop (j+1)++az (l.drop (i+1)):=by rw[show i*m+j+1=(az (l.take i)).length+(j+1) by omega,List.drop_length_add_append,List.drop_append_of_le_length (by omega)]
 rw[D,y];simp
theorem mh {m:Nat}{l:List AV}(h:∀v∈l,v.cells.length=m) {i j:Nat}(n:i<l.length) (o:j<m):(az l)[i*m+j]? =l[i].cells[j]? :=by
 obtain⟨h1,h2⟩:=gN l h;have h4:=h l[i] (List.getElem_mem n);have h3:=h2 i j n o;have hlt:i*m+j<(az l).length:=by rw[h1];exact kc n o
 rw[List.getElem?_eq_getElem hlt,List.getElem?_eq_getElem (by omega)];simp only[List.getD_eq_getElem?_getD,List.getElem?_eq_getElem hlt,List.getElem?_eq_getElem n,Option.getD_some]at h3;rw[h3,List.getElem?_eq_getElem (by omega)];rfl
def gq (r:List RI):Except (Int×Int) (List RI)→Except (Int×Int) (List RI)
 |.error e=> .error e
 |.ok s=> .ok (r++s)
theorem Gu {b:List UInt8}{k a:Nat}(ha:a<b.length) (r:List RI):gq r (kh b (k+1) a)=match rH b a with|.error e=> .error e|.ok (x,t,h)=>gq (r++ [⟨x,a,t⟩]) (kh b k h):=by
 simp only[kh,if_pos ha];cases rH b a with
 |error e=>rfl
 |ok y=>
  obtain⟨x,t,h⟩:=y;simp only;cases kh b k h with
  |error e=>rfl
  |ok s=>simp[gq]
theorem R0 {op:Int}(h:0≤dk (oO op)) (a:Nat):((a+1+(dk (oO op)).toNat:Nat):Int)=a+1+dk (oO op):=by omega
theorem GF {b:List UInt8}{a:Nat}{nl:Bool}{idr idx ta tj:Nat}{A J:List Int}{σ:AS}{p e:Int}
 (h:rH b a= .error (p,e)) (h1:σ idr=some (bC b a nl)) (h2:σ idx=some (HM idr b.length A J ta tj)) (h3:σ ta=some (.tok A.length)) (h4:σ tj=some (.tok J.length))
 (hb:b.length≤140737488355328) (hlt:a<b.length) (i:¬ta=tj) (q:A.length≤1000) (o:J.length≤1000):
 ∃v:Int,aa Tryz.prog 251 [.ptr idx 0] σ (ao (.bQ [aJ ⟨0,0,eW⟩,.sc (.int .i64 p),.sc (.int .i64 e)]) (σ.set idr (bC b v nl))) No:=by
 unfold rH at h;split at h
 ·rename_i j;cases h;exact⟨_,I8 b a nl idr idx ta tj A J b.length σ h1 h2 hb hlt j⟩
 rename_i j;split at h
 ·rename_i n;cases h;exact⟨_,GD b a nl idr idx ta tj A J b.length σ h1 h2 hb hlt j n⟩
 rename_i n;split at h
 ·cases h
 rename_i l;cases h;have hw:=fg (oO ((b.getD a 0).toNat:Int));have u:=Ff b a nl idr idx ta tj A J b.length σ h1 h2 h3 h4 hb hlt i q o ((b.getD a 0).toNat:Int) (oO ((b.getD a 0).toNat:Int)) _ _ rfl rfl rfl rfl j (by omega) false (by rw[show((a+1:Nat):Int)=(a:Int)+1 by omega,show(((dk (oO ((b.getD a 0).toNat:Int))).toNat:Nat):Int)=dk (oO ((b.getD a 0).toNat:Int)) by omega]at l;simpa using l);exact⟨_,u⟩
theorem I7 {b:List UInt8}{a:Nat}{nl:Bool}{idr idx ta tj:Nat}{A J:List Int}{σ:AS}{x:db}{t:Int}{v:Nat}
 (h:rH b a= .ok (x,t,v)) (h1:σ idr=some (bC b a nl)) (h2:σ idx=some (HM idr b.length A J ta tj)) (h3:σ ta=some (.tok A.length)) (h4:σ tj=some (.tok J.length))
 (hb:b.length≤140737488355328) (hlt:a<b.length) (i:¬ta=tj) (y:A.length≤1000) (w:J.length≤1000):
 aa Tryz.prog 251 [.ptr idx 0] σ (ao (.bQ [aJ x,.sc (.int .i64 0),.sc (.int .i64 0)])
  ((((σ.set idr (bC b v nl)).set idx (HM idr b.length (A++ [(a:Int)]) (J++ [t]) ta tj)).set ta (.tok (A.length+1))).set tj (.tok (J.length+1)))) No:=by
 unfold rH at h;split at h
 ·cases h
 rename_i l;split at h
 ·cases h
 rename_i D;split at h
 ·rename_i j;simp only[Except.ok.injEq,Prod.mk.injEq]at h;obtain⟨rfl,rfl,rfl⟩:=h;have hw:=fg (oO ((b.getD a 0).toNat:Int));have o:((a+1:Nat):Int)=(a:Int)+1:=by omega
  have n:(((dk (oO ((b.getD a 0).toNat:Int))).toNat:Nat):Int)=dk (oO ((b.getD a 0).toNat:Int)):=by omega
  have u:=R0 hw.1 a;rw[o,n]at j;have q:=Ff b a nl idr idx ta tj A J b.length σ h1 h2 h3 h4 hb hlt i y w ((b.getD a 0).toNat:Int) (oO ((b.getD a 0).toNat:Int)) _
   (PL (oO ((b.getD a 0).toNat:Int)) (bj (cy b (a+1:Nat) (dk (oO ((b.getD a 0).toNat:Int))).toNat)) (a+1+(dk (oO ((b.getD a 0).toNat:Int))).toNat)) rfl rfl rfl (by
    rw[o,n];unfold PL;split
    ·rename_i e;rw[u,e];simp[dk];omega
    ·rfl) l (by omega) true j
  simp only[if_true]at q;rw[o,n,u]at*;exact q
 ·cases h
theorem le_none {σ τ:AS}{i:Nat}(h:AS.le σ τ) (l:τ i=none):σ i=none:=by
 cases j:σ i with
 |none=>rfl
 |some y=>have:=h i y j;rw[l]at this;cases this
def Gw (d:List db):Except (Int×Int) (List db)→Except (Int×Int) (List db)
 |.error e=> .error e
 |.ok s=> .ok (d++s)
theorem Gv (L:List Int) (d:List db) (y:RI) (s:List RI):Gw d (mB L (y::s))=match yf L y with|.error e=> .error e|.ok x=>Gw (d++ [x]) (mB L s):=by
 simp only[mB];cases yf L y with
 |error e=>rfl
 |ok x=>
  simp only;cases mB L s with
  |error e=>rfl
  |ok l=>simp[Gw]
theorem sS {P:Program}{a b c d u q o n:AV}(h1:AV.Wk P a u) (h2:AV.Wk P b q) (h3:AV.Wk P c o) (h4:AV.Wk P d n):AV.Wk P (.bQ [a,b,c,d]) (.bQ [u,q,o,n]):=by
 intro G x h;cases h with
 |bQ vs l h=>
  refine .bQ vs l fun i j=> ?_;have:=h i j
  match i,j with
  |0,_ =>exact h1 _ _ this
  |1,_ =>exact h2 _ _ this
  |2,_ =>exact h3 _ _ this
  |3,_ =>exact h4 _ _ this
def vq (σ:AS) (b:List UInt8) (nl:Bool) (idr idx ta tj:Nat) (r:List RI) (a:Int):AS:=
 (((σ.set idr (bC b a nl)).set idx (HM idr b.length (r.map (·.a)) (r.map (·.t)) ta tj)).set ta (.tok r.length)).set tj (.tok r.length)
end Cd
namespace Im
open Go Go.AW
theorem FY (S:List Nat):aH Tryz.prog [] S:=mixed
theorem gQ (S:List Nat):aH Tryz.prog [(7,(.step 0 (.step 1 (.step 2 (.step 4 (.step 5 (.step 6 (.step 7 (.read 8 (.alt 3 (.alt 9 (.step 10 (.step 11 (.alt 12 .done .none))) .none) (.alt 9 (.read 3 (.step 10 (.step 11 (.alt 12 .done .none)))) .none)))))))))))] S:=mixed
open Sg (aD bL)
open Pl (sV)
open Cd (oO eW rj mh)
def di:List Ty→List db→List Ty×List db
 |sp,[]=>(sp,[])
 |sp,x::r=>if oO x.op=8 then((di (nG sp x.t) r).1,⟨x.op,rF sp x.t,eW⟩::(di (nG sp x.t) r).2)else((di sp r).1,x::(di sp r).2)
theorem sq {α:Type}[DecidableEq α] (l:List α) (t:α):l.length≤(nG l t).length∧(nG l t).length≤l.length+1:=by unfold nG;split<;>simp
variable {k:SK} {g:bZ} {d:SD} {T:SR} {B τ:AS}
theorem SI.wr (h:SI k g d T B τ) {i:Nat}{x b:bN}(v:B i=some x):SI k g d T (B.set i b) (τ.set i b):=by
 have w:∀j∈keys k T,j≠i:=by rintro j n rfl;rw[h.fr j n]at v;cases v
 have l:∀j∈keys k T,∀σ:AS,(σ.set i b) j=σ j:=fun j n σ=>AS.ad _ _ (w j n);have q:∀ {j:Nat},j∈T.map (·.1)++T.flatMap (fun x=>x.2.map (·.1))→j∈keys k T:=fun n=>by simp only[keys,List.mem_cons];simp only[n,or_true]
 exact⟨(l _ (by simp[keys]) _).trans h.aT,(l _ (by simp[keys]) _).trans h.bq,(l _ (by simp[keys]) _).trans h.tS,(l _ (by simp[keys]) _).trans h.tL,(l _ (by simp[keys]) _).trans h.tN,(l _ (by simp[keys]) _).trans h.tB,(l _ (by simp[keys]) _).trans h.tC,
  fun x o=>(l _ (q (List.mem_append_left _ (List.mem_map.2 ⟨x,o,rfl⟩))) _).trans (h.Ib x o),fun x o p u=>(l _ (q (List.mem_append_right _ (List.mem_flatMap.2 ⟨x,o,List.mem_map.2 ⟨p,u,rfl⟩⟩))) _).trans (h.row x o p u),
  kC h.le,h.EO,h.nd,fun j n=>(l j n _).trans (h.fr j n)⟩
theorem SI.erase {i:Nat}{b:bN}(h:SI k g d T (B.set i b) τ) (D:B i=none):∃S:AS,S i=none∧τ=S.set i b∧SI k g d T B S:=by
 have w:τ i=some b:=h.le i b (by simp);have v:∀j∈keys k T,j≠i:=by rintro j l rfl;have:=h.fr j l;simp at this
 refine⟨fun j=>if j=i then none else τ j,by simp,?_,?_⟩
 ·funext j;by_cases e:j=i
  ·subst e;simp[AS.set,w]
  ·simp[AS.set,e]
 ·have n:∀j∈keys k T,(if j=i then none else τ j)=τ j:=fun j l=>if_neg (v j l);have q:∀ {j:Nat},j∈T.map (·.1)++T.flatMap (fun x=>x.2.map (·.1))→j∈keys k T:=fun l=>by simp only[keys,List.mem_cons];simp only[l,or_true]
  refine⟨(n _ (by simp[keys])).trans h.aT,(n _ (by simp[keys])).trans h.bq,(n _ (by simp[keys])).trans h.tS,(n _ (by simp[keys])).trans h.tL,(n _ (by simp[keys])).trans h.tN,(n _ (by simp[keys])).trans h.tB,(n _ (by simp[keys])).trans h.tC,
   fun x o=>(n _ (q (List.mem_append_left _ (List.mem_map.2 ⟨x,o,rfl⟩)))).trans (h.Ib x o),fun x o p u=>(n _ (q (List.mem_append_right _ (List.mem_flatMap.2 ⟨x,o,List.mem_map.2 ⟨p,u,rfl⟩⟩)))).trans (h.row x o p u),
   fun j y l=> ?_,h.EO,h.nd,fun j l=> ?_⟩
  ·have e:j≠i:=nq D l;show(if j=i then none else τ j)=some y;rw[if_neg e];exact h.le j y (by rw[AS.ad _ _ e];exact l)
  ·have:=h.fr j l;rwa [AS.ad _ _ (v j l)]at this
theorem SI.mP (h:SI k g d T B τ) {i:Nat}(j:τ i=none):B i=none:=qG h.le j
theorem Hn (l:List db) (own:cL) (h:0<l.length) (hl:l.length≤1000000) (σ:AS):
 aa Tryz.prog 232 [rj l own false] σ (fun r τ=>GV Tryz.prog 110 (l.map aJ) r σ τ) No:=by
 refine aa.ob Tryz.func232 ?_;simp only[rj];refine gO (S:= [3]) FY @Tryz.underlying50 tI ?_
 with_reducible apply ae.eX
 refine br.first 2 ?_;simp-implicitDefEqProofs;refine br.sp rfl (il.MX (by decide) 110 (l.map aJ) (nl:=false) (by simp) (by simp) (by simp) (by simp) (by simp) (by simp[fR,Tryz.underlying50]) (by intro x i;obtain⟨y,_,rfl⟩:=List.mem_map.1 i;simp[aJ]) (by simpa using h) (by simp[kH];omega) (by simp;omega) ?_);intro v τ j;refine br.rest ?_;simp-implicitDefEqProofs;refine gO FY tI tI ?_;exact⟨_,_,Wk.refl _,lR _,j⟩
def Vm (k:SK) (g:bZ) (d:SD) (T:SR) (B:AS) (l:List db) (r:AV) (h:AS):Prop:= ∃nl,(nl=true→(di d.sp l).2= [])∧r=rj (di d.sp l).2 .aE nl∧SI k g { d with sp:=(di d.sp l).1 } T B h
theorem SI.raw (h:SI k g d T B τ) (l:List db) (ap:0<l.length) (hl:l.length≤1000) (hd:d.sp.length≤90000):
 aa Tryz.prog 185 [.ptr k.aT 0,rj l .aE false] τ (Vm k g d T B l) No:=by
 have ac:=fun(x:db) σ=>sT x.op σ;simp only[jq]at ac;refine aa.ob Tryz.func185 ?_;simp only[rj];refine gO gQ tI tI ?_;have ar:=Hn l .aE ap (by omega) τ;simp only[rj]at ar;refine ag.of ar ?_ (fun _ _ h=>h.elim);rintro r0 τ0 hG;obtain⟨o,cap,n,h0,rfl,rfl,U,Q⟩:∃o cap n,τ o=none∧r0= .fT o 0 (l.map aJ).length cap∧τ0=τ.set o (.cells 110 (az (l.map aJ++n)))∧(∀x∈l.map aJ++n,x.cells.length=Tryz.prog.cellsOf 110)∧(l.map aJ).length+n.length=cap:=by
  rcases hG with⟨h1,_,_⟩|hG
  ·exfalso;have:=congrArg List.length h1;simp at this;subst this;simp at ap
  ·exact hG
 have be:=qG h.le h0;simp-implicitDefEqProofs;simp only[List.length_map]at Q;refine gO gQ tI tI ?_;refine ae.bp (α:=(Nat)×(List Ty)×(List db)×(AS)) ((0,d.sp,[],τ.set o (.cells 110 (az (l.map aJ++n))))) (fun⟨i,sp,u,M⟩=>l.length-i) (fun⟨i,sp,u,M⟩=>i≤l.length∧u.length=i∧SI k g { d with sp:=sp } T (B.set o (.cells 110 (az ((u++l.drop i).map aJ++n)))) M∧di d.sp l=((di sp (l.drop i)).1,u++(di sp (l.drop i)).2)∧sp.length≤d.sp.length+i) [(0,?_),(4,?_),(5,?_),(12,?_),(13,?_)] (fun⟨i,sp,u,M⟩=> [(14,.sc (.int .i64 i))]) (fun⟨i,sp,u,M⟩=>M) ?_ ?_ ?_ ?_;rotate_left 5
 ·exact gF tI
 ·(try dsimp only);exact lR _
 ·exact⟨by omega,rfl,by simpa using h.own h0,by simp,by simp⟩
 intro x_ ab;obtain⟨i,sp,u,M⟩:=x_;try dsimp only at ab⊢
 obtain⟨hi,F,K,I,b5⟩:=ab;simp only[gj];by_cases hlt:i<l.length
 ·have D:IntKind.i64.wrap ((i:Int)+1)=((i+1:Nat):Int):=cv (by omega);rw[List.drop_eq_getElem_cons hlt]at I K;simp only[di]at I;have hlen:((u++l[i]::l.drop (i+1)).map aJ++n).length=cap:=by simp;omega
  have G:∀(z:db) v,v∈(u++z::l.drop (i+1)).map aJ++n→v.cells.length=6:=by
   intro z v E;rcases List.mem_append.1 E with E|E
   ·obtain⟨w,_,rfl⟩:=List.mem_map.1 E;rfl
   ·exact(U v (by simp[E])).trans (by simp)
  generalize hx:l[i]=x at*;have a4:(nj x.op).2.1=oO x.op:=rfl;have P:=ac x;have bb:i<((u++x::l.drop (i+1)).map aJ++n).length:=by simp;omega
  have b6:i*6+6≤(az ((u++x::l.drop (i+1)).map aJ++n)).length:=by rw[dR (G x)];omega
  have O:∀z:db,(az ((u++x::l.drop (i+1)).map aJ++n)).take (i*6)++((aJ z).cells++(az ((u++x::l.drop (i+1)).map aJ++n)).drop (i*6+6))=az ((u++ [z]++l.drop (i+1)).map aJ++n):=by intro z;rw[ue (G x) bb (v:=aJ z) rfl];congr 1;rw[List.set_append_left _ _ (by simp;omega)];congr 1;rw[←List.map_set];congr 1;rw[List.set_append_right _ _ (by omega)];simp[F]
  have al:∀z:db,az (List.map aJ (u++ [z])++(List.drop (i+1) (List.map aJ l)++n))=az ((u++ [z]++l.drop (i+1)).map aJ++n):=by intro z;simp[List.map_drop]
  have am:u++ [x]++l.drop (i+1)=u++x::l.drop (i+1):=by simp
  generalize bc:az ((u++x::l.drop (i+1)).map aJ++n)=V at*;rw[a4]at P;refine gO gQ (j4 hlt @hx @iw @aI) tI ?_;intro Z y;have a1:=K.own (b:= .cells 110 (aJ x).cells) y;simp only[iw,aQ]at a1;refine gO gQ tI @P ?_;intro L j H;have q:=aA j;have a0:=a1.own (i:=L) (b:= .cells 194 [.sc (.string ⟨(nj x.op).1.toArray⟩),.sc (.int .i64 (oO x.op)),.sc (.int .i64 (nj x.op).2.2)]) (by simpa[AS.set,j]using H);have a6:o≠Z:=by rintro rfl;have:=K.le o _ (AS.aj _ _ _);rw[y]at this;cases this
  have Y:M L=none:=by simpa[AS.set,j]using H
  have a5:o≠L:=by rintro rfl;have:=K.le o _ (AS.aj _ _ _);rw[Y]at this;cases this
  by_cases h8:oO x.op=8
  ·rw[if_pos h8]at I;rw[h8]at a0;refine gO gQ (j3 @h8 @D q) tI ?_;have hp:=a0.put x.t (by simp;omega);simp only[aD]at hp
   repeat' (with_reducible apply j2)
   all_goals
    refine ag.of hp ?_ (fun _ _ h=>h.elim);rintro r τ2 ⟨rfl,h2⟩;have av:SI k g { d with sp:=nG sp x.t } T (B.set o (.cells 110 (V.take (i*6)++((aJ ⟨x.op,rF sp x.t,eW⟩).cells++V.drop (i*6+6))))) (τ2.set o (.cells 110 (V.take (i*6)++((aJ ⟨x.op,rF sp x.t,eW⟩).cells++V.drop (i*6+6))))):=by have h3:=(h2.drop (AS.ah (AS.ah (lR _) (K.mP y)) (K.mP Y))).wr (i:=o) (b:= .cells 110 (V.take (i*6)++((aJ ⟨x.op,rF sp x.t,eW⟩).cells++V.drop (i*6+6)))) (AS.aj _ _ _);rwa [AS.set_set]at h3
    have ro:=h2.le o _ (by rw[AS.ad _ _ a5,AS.ad _ _ a6,AS.aj]);have r7:=h2.le Z _ (by rw[AS.ad _ _ q,AS.aj]);have r8:=h2.le L _ (AS.aj _ _ _);simp-implicitDefEqProofs [ro,r7];refine gO gQ @D tI ?_;refine aP.mk ((i+1,nG sp x.t,u++ [⟨x.op,rF sp x.t,eW⟩],τ2.set o (.cells 110 (V.take (i*6)++((aJ ⟨x.op,rF sp x.t,eW⟩).cells++V.drop (i*6+6)))))) (by(try dsimp only);omega) (gF tI) (by(try dsimp only);exact le_eq (by simp[aJ,eW])) ?_;try dsimp only
    have X:=sq sp x.t;refine⟨hlt,by simp[F],?_,by rw[I];simp,by omega⟩;rw[O]at av;rw[al,O];exact av
  ·rw[if_neg h8]at I;refine gO gQ (j3 @h8 @D q) tI ?_;refine aP.mk ((i+1,sp,u++ [x],M)) (by(try dsimp only);omega) (gF tI) (by(try dsimp only);exact aq (by simp[AS.set,j,Y]) (aq y (lR _))) ?_;try dsimp only
   refine⟨hlt,by simp[F],by rw[al,am,bc];exact K,by rw[I];simp,by omega⟩
 ·have X:i=l.length:=by omega
  rw[List.drop_eq_nil_of_le (by omega)]at I K;simp only[di,List.append_nil]at I K;refine gO (S:= [9]) gQ (j2 hlt @aI) tI ?_;obtain⟨S,a8,rfl,a7⟩:=K.erase be;refine ae.sy 5 (e:=110) (es:=u.map aJ) (S:=S) (.inr ⟨o,cap,n,a8,by simp[F,X],rfl,fun v E=> ?_,by simp[F,X,Q]⟩) ?_
  ·rcases List.mem_append.1 E with E|E
   ·obtain⟨z,_,rfl⟩:=List.mem_map.1 E;simp[aJ]
   ·exact U v (by simp[E])
  intro a3 af;refine gO gQ tI tI ?_;exact⟨_,S,Wk.refl _,lR _,a3,fun e=>by rw[I];simpa using af e,by rw[I];rfl,by rw[I];exact a7⟩
end Im
end Go.Proofs.YtknalmoackcpbaaGreat
namespace Go.Proofs.YtknalmoackcpbaaGreat
namespace Im
open Go Go.AW
theorem dh (S:List Nat):aH Tryz.prog [(12,(.step 0 (.step 1 (.step 2 (.step 3 (.read 4 (.alt 5 (.step 6 (.alt 7 .done .none)) .none)))))))] S:=mixed
open Sg (aD bL)
open Pl (sV)
open Rg (Cl ic aW)
open Cd (oO eW rj cz eH rQ xp)
open Bd (R6 dz cm dd za A1)
def vH (c:Cl):Ty:=⟨c.a,c.b,c.c,c.r⟩
def iO (P:List Int):List Ty→List Cl→List Ty×List R6
 |sp,[]=>(sp,[])
 |sp,c::r=>if c.k=1 then((iO P (nG sp (vH c)) r).1,{ ey P c with ex:=rF sp (vH c) } ::(iO P (nG sp (vH c)) r).2)else((iO P sp r).1,ey P c::(iO P sp r).2)
def qZ (co w:List UInt8):List UInt8:=if (w.headD 0).toNat%4=3 then co++List.replicate ((4-co.length%4)%4) 0 else co
def AT (sp:List Ty) (m:Mt):List Int:=(cz (di sp m.code).2).1
def zy (sp:List Ty) (m:Mt):List Ty:=(iO (AT sp m) (di sp m.code).1 m.cls).1
def N3 (sp:List Ty) (m:Mt):List R6:=(iO (AT sp m) (di sp m.code).1 m.cls).2
def EL (sp:List Ty) (m:Mt):List UInt8:=(eH (di sp m.code).2).1
def xR (sp:List Ty) (m:Mt):List UInt8:=cm (EL sp m) (N3 sp m)
theorem pN:∀(l:List db) (sp:List Ty),(di sp l).2.length=l.length∧(di sp l).1.length≤sp.length+l.length
 |[],sp=>by simp[di]
 |x::r,sp=>by
  simp only[di];have h:=sq sp x.t;split
  ·have:=pN r (nG sp x.t);simp;omega
  ·have:=pN r sp;simp;omega
theorem I3:∀(l:List db) (a:Int),(Cd.aM l a).length=l.length+1
 |[],a=>rfl
 |x::r,a=>by simp[Cd.aM,I3 r]
theorem OE (l:List db):(cz l).1.length≤161:=by
 unfold cz;split
 ·simp
 ·split
  ·rw[I3];omega
  ·simp
variable {k:SK} {g:bZ} {d:SD} {T:SR} {B τ:AS}
def Vt (k:SK) (g:bZ) (d:SD) (T:SR) (B:AS) (m:Mt) (r:AV) (h:AS):Prop:=
 r= .sc (.int .i64 ((qZ d.co (xR d.sp m)).length+1))∧SI k g { d with sp:=zy d.sp m,co:=qZ d.co (xR d.sp m)++xR d.sp m } T B h
theorem SI.R7 (h:SI k g d T B τ) (m:Mt) (hm:m.code= []):
 aa Tryz.prog 136 [.ptr k.aT 0,jK m] τ (fun r j=>r= .sc (.int .i64 0)∧SI k g d T B j) No:=by
 refine aa.ob Tryz.func136 ?_;simp only[cY,hm];refine gO dh tI tI ?_;intro id3 i;refine gO dh tI tI ?_;exact⟨_,_,Wk.refl _,lR _,rfl,(h.own i).drop (AS.ah (lR _) (h.mP i))⟩
def rq (b:List UInt8) (rs:List R6) (h:Nat):bN:= .cells 219 [.an 5 (b.map u8) .aE (decide (b= [])),.an 221 (rs.map dz) (.tok h) (decide (rs= []))]
theorem xt (b:List UInt8) (rs:List R6) (h:Nat):rq b rs h= .cells 219 [.an 5 (b.map u8) .aE (decide (b= [])),.an 221 (rs.map dz) (.tok h) (decide (rs= []))]:=rfl
theorem CA (b:List UInt8) (rs:List R6) (x:R6) (h:Nat):rq b (rs++ [x]) h= .cells 219 [.an 5 (b.map u8) .aE (decide (b= [])),.an 221 (rs.map dz++ [dz x]) (.tok h) false]:=by simp[rq]
theorem SI.fJ {C:AS}{j l:Nat}{b:List UInt8}{rs:List R6}(h:SI k g d T ((C.set j (rq b rs l)).set l (.tok rs.length)) τ) (n:j≠l) (x:R6):
 SI k g d T ((C.set j (rq b (rs++ [x]) l)).set l (.tok (rs.length+1))) ((τ.set l (.tok (rs.length+1))).set j (rq b (rs++ [x]) l)):=by
 have h1:=(h.wr (i:=l) (b:= .tok (rs.length+1)) (AS.aj _ _ _)).wr (i:=j) (b:=rq b (rs++ [x]) l) (by rw[AS.ad _ _ n,AS.ad _ _ n,AS.aj]);rwa [AS.set_set,AS.set_comm (Ne.symm n),AS.set_set]at h1
theorem pZ:∀(l:List R6),(l.flatMap Bd.rm).length=12*l.length
 |[]=>rfl
 |r::l=>by have:(Bd.rm r).length=12:=rfl;simp only[List.flatMap_cons,List.length_append,pZ l,this,List.length_cons];omega
theorem yn {code:List UInt8}{cls:List R6}(h:dd code cls=true):(cm code cls).length≤100000:=by
 have h1:code.length≤65535∧cls.length≤6:=by simp only[dd,Bool.and_eq_true,decide_eq_true_eq]at h;omega
 have i:∀c,(Bd.mO c code).length=8+code.length:=fun c=>by simp[Bd.mO,ax];omega
 unfold cm;split
 ·split
  ·simp;omega
  ·rw[i];omega
 ·simp only[Bd.tH,List.length_append,List.length_replicate,i,pZ,List.length_cons,List.length_nil];omega
theorem N5 {a b c:Nat}(h1:a≤100000004) (h2:b+1≤100000):a+(b+1)≤140737488355328:=by omega
theorem RV {a c j i:Nat}{P:Prop}[Decidable P] (h:i=(if P then(4-a%4)%4 else 0)) (l:j≤i) (n:c=a+j) (ha:a≤100000000):c≤100000004:=by split at h<;>omega
theorem QE (n:Nat):((n:Int).tmod 4=0)=(n%4=0):=by have h:((n:Int).tmod 4)=((n%4:Nat):Int):=rfl;rw[h];simp only[eq_iff_iff];omega
theorem OA {a c j i:Nat}(l:i=(4-a%4)%4) (n:j≤i) (o:c=a+j):(j<i→((c:Int).tmod 4=0)=False)∧(¬j<i→((c:Int).tmod 4=0)=True∧j=i):=by rw[QE];refine⟨fun h=>eq_false (by omega),fun h=>⟨eq_true (by omega),by omega⟩⟩
theorem F7 (code:List UInt8) (cls:List R6):∃w r,cm code cls=w::r:=by
 unfold cm;split
 ·split
  ·exact⟨_,_,rfl⟩
  ·exact⟨_,_,rfl⟩
 ·exact⟨_,_,rfl⟩
theorem SI.R5 (h:SI k g d T B τ) (m:Mt) (hm:0<m.code.length) (fi:m.code.length≤160) (ci:m.cls.length≤100) (ej:m.cn=true→m.code= []) (hC:∀c∈m.cls,Nc (AT d.sp m) c) (hW:dd (EL d.sp m) (N3 d.sp m)=true) (hd:d.sp.length≤80000) (ei:d.co.length≤100000000):
 aa Tryz.prog 136 [.ptr k.aT 0,jK m] τ (Vt k g d T B m) No:=by
 have b4:m.cn=false:=by
  cases hc:m.cn with
  |false=>rfl
  |true=>have:=ej hc;rw[this]at hm;simp at hm
 have fe:=pN m.code d.sp;refine aa.ob Tryz.func136 ?_;simp only[cY,b4];have ft:((m.code.length:Int)=0)=False:=eq_false (by omega);have ee:m.code≠ []:=by rintro e;rw[e]at hm;simp at hm
 refine gO dh tI tI ?_;intro id3 a3;have h3:=h.own (b:= .cells 53 (jK m).cells) a3;simp only[cY,aQ,b4]at h3;refine gO dh @ee tI ?_;have b2:=h3.raw m.code hm (by omega) (by omega);simp only[rj]at b2;refine ag.of b2 ?_ (fun _ _ h=>h.elim);rintro r τ1 ⟨c6,e8,rfl,h4⟩;have dl:=fun σ=>rQ (di d.sp m.code).2 .aE c6 (by omega) σ;have dp:=fun σ=>xp (di d.sp m.code).2 .aE c6 (by omega) σ;simp only[rj,Cd.u0,Cd.UW]at dl dp;have r3:=h4.le id3 _ (AS.aj _ _ _);obtain⟨M,h4⟩:∃M,SI k g { d with sp:=(di d.sp m.code).1 } T (B.set id3 M) τ1:=⟨_,h4⟩;simp-implicitDefEqProofs [rj];refine gO dh tI (j2 @dl @dp) ?_;rw[show(eH (di d.sp m.code).2).1=EL d.sp m from rfl,show(cz (di d.sp m.code).2).1=AT d.sp m from rfl];have b0:zy d.sp m=(iO (AT d.sp m) (di d.sp m.code).1 m.cls).1:=rfl;have bv:N3 d.sp m=(iO (AT d.sp m) (di d.sp m.code).1 m.cls).2:=rfl;have es:(AT d.sp m).length≤1000000:=by have:=OE (di d.sp m.code).2;unfold AT;omega
 intro o Q;have E:¬id3=o:=nq r3 Q;have U:=aA E;refine ae.pO o 1 221 [] true (ty:=219) (cs:= [.an 5 ((EL d.sp m).map u8) .aE (decide (EL d.sp m= [])),.ai]) (by simp) (by simp) (.inr ⟨by simp,rfl,rfl⟩) ?_;simp-implicitDefEqProofs;intro I L a2;have l:=aA L;have H:¬id3=I:=nq r3 a2;have ab:=aA H;have h5:=((h4.own (b:=rq (EL d.sp m) [] I) Q).own (i:=I) (b:= .tok 0) (by simpa[AS.set,L]using a2));generalize hP:AT d.sp m=P at*;generalize e7:(di d.sp m.code).1=b6 at*;generalize hE:EL d.sp m=bb at*;refine gO dh (j3 E @r3 H) tI ?_;refine ae.bp (α:=(Nat)×(List Ty)×(List R6)×(AS)) ((0,b6,[],((τ1.set o (rq bb [] I)).set I (.tok 0)))) (fun⟨i,sp,rs,τ'⟩=>m.cls.length-i) (fun⟨i,sp,rs,τ'⟩=>i≤m.cls.length∧rs.length=i∧SI k g { d with sp:=sp } T (((B.set id3 M).set o (rq bb rs I)).set I (.tok rs.length)) τ'∧iO P b6 m.cls=((iO P sp (m.cls.drop i)).1,rs++(iO P sp (m.cls.drop i)).2)∧sp.length≤b6.length+i) [(0,?_),(4,?_),(6,?_),(10,?_),(39,?_),(40,?_)] (fun⟨i,sp,rs,τ'⟩=> [(41,.sc (.int .i64 i))]) (fun⟨i,sp,rs,τ'⟩=>τ') ?_ ?_ ?_ ?_;rotate_left 6
 ·exact gF tI
 ·(try dsimp only);exact lR _
 ·exact⟨by omega,rfl,h5,by simp,by simp⟩
 intro x_ ar;obtain⟨i,sp,rs,τ'⟩:=x_;try dsimp only at ar⊢
 obtain⟨hi,de,hS,hR,e6⟩:=ar;simp only[gj];by_cases hlt:i<m.cls.length
 ·have am:IntKind.i64.wrap ((i:Int)+1)=((i+1:Nat):Int):=cv (by omega);rw[List.drop_eq_getElem_cons hlt]at hR;simp only[iO]at hR;have em:=hC m.cls[i] (List.getElem_mem hlt);generalize hc:m.cls[i]=c at*;have c9:=fun σ=>MK P .aE (decide (P= [])) c em es σ;simp only[aW,dz]at c9;have S:=hS.le o _ (by rw[AS.ad _ _ l,AS.aj]);have rk:=hS.le I _ (AS.aj _ _ _);rw[xt]at S;refine gO dh (j4 hlt @hc @aW @aI) tI ?_;intro ap F;have u:¬o=ap:=nq S F;have a7:=aA u;have D:¬I=ap:=nq rk F;have cc:=aA D;have h6:=hS.own (b:= .cells 158 (ic c).cells) F;simp only[aW,aQ]at h6;refine gO dh tI @c9 ?_;intro K q Z;have G:=aA q;have V:τ' K=none:=by simpa[AS.set,q]using Z
  have n:¬o=K:=nq S V;have a6:=aA n;have y:¬I=K:=nq rk V;have cb:=aA y;have h7:=h6.own (i:=K) (b:= .cells 221 [.sc (.int .i64 (ey P c).kd),.sc (.int .i64 (ey P c).ta),.sc (.int .i64 (ey P c).tl),.sc (.int .i64 (ey P c).ha),.sc (.int .i64 (ey P c).hl),.sc (.int .i64 (ey P c).ex)]) (by simpa[AS.set,q]using Z);have eg:AS.le (((B.set id3 M).set o (rq bb rs I)).set I (.tok rs.length)) (((((B.set id3 M).set o (rq bb rs I)).set I (.tok rs.length)).set ap (.cells 158 (ic c).cells)).set K (.cells 221 [.sc (.int .i64 (ey P c).kd),.sc (.int .i64 (ey P c).ta),.sc (.int .i64 (ey P c).tl),.sc (.int .i64 (ey P c).ha),.sc (.int .i64 (ey P c).hl),.sc (.int .i64 (ey P c).ex)])):=
   AS.ah (AS.ah (lR _) (hS.mP F)) (hS.mP V)
  by_cases a0:c.k=1
  ·rw[if_pos a0]at hR;have av:=h7.put (vH c) (by simp;omega);simp only[aD,vH]at av;rw[a0]at av;refine gO dh (j2 (j7 @a0 l @am u @S D @rk) (j3 G n y)) tI ?_;refine ag.of av ?_ (fun _ _ h=>h.elim);rintro r τ2 ⟨rfl,h8⟩;have eb:=h8.le K _ (AS.aj _ _ _);have c4:=h8.le o _ (by rw[AS.ad _ _ n,AS.ad _ _ u,AS.ad _ _ l,AS.aj]);have qk:=h8.le I _ (by rw[AS.ad _ _ y,AS.ad _ _ D,AS.aj]);rw[xt]at c4;simp-implicitDefEqProofs [eb];refine gO dh (j6 @c4 @qk l @am n y) tI ?_;have h9:=(h8.wr (i:=K) (b:= .cells 221 [.sc (.int .i64 (ey P c).kd),.sc (.int .i64 (ey P c).ta),.sc (.int .i64 (ey P c).tl),.sc (.int .i64 (ey P c).ha),.sc (.int .i64 (ey P c).hl),.sc (.int .i64 (rF sp (vH c)))]) (AS.aj _ _ _));rw[AS.set_set]at h9;have e0:=(h9.drop (B':=((B.set id3 M).set o (rq bb rs I)).set I (.tok rs.length)) (AS.ah (AS.ah (lR _) (hS.mP F)) (hS.mP V))).fJ l { ey P c with ex:=rF sp (vH c) };have fv:=sq sp (vH c);refine aP.mk ((i+1,nG sp (vH c),rs++ [{ ey P c with ex:=rF sp (vH c) }],((τ2.set K (.cells 221 [.sc (.int .i64 (ey P c).kd),.sc (.int .i64 (ey P c).ta),.sc (.int .i64 (ey P c).tl),.sc (.int .i64 (ey P c).ha),.sc (.int .i64 (ey P c).hl),.sc (.int .i64 (rF sp (vH c)))])).set I (.tok (rs.length+1))).set o (rq bb (rs++ [{ ey P c with ex:=rF sp (vH c) }]) I))) (by(try dsimp only);omega) (gF tI) (by(try dsimp only);(rw[CA];exact lR _)) ?_;try dsimp only
   refine⟨hlt,by simp[de],?_,by rw[hR];simp,by omega⟩;simp only[List.length_append,List.length_singleton];exact e0
  ·rw[if_neg a0]at hR;refine gO dh (j2 (j7 @a0 l @am u @S D @rk) (j3 G n y)) tI ?_;refine aP.mk ((i+1,sp,rs++ [ey P c],(τ'.set I (.tok (rs.length+1))).set o (rq bb (rs++ [ey P c]) I))) (by(try dsimp only);omega) (gF tI) (by(try dsimp only);(rw[CA];exact kC (kC (aq (by simpa[AS.set,q]using V) (aq F (lR _)))))) ?_;try dsimp only
   refine⟨hlt,by simp[de],?_,by rw[hR];simp,by omega⟩;have:=hS.fJ l (ey P c);simpa using this
 ·rw[List.drop_eq_nil_of_le (by omega)]at hR;simp only[iO,List.append_nil]at hR;rw[hR]at b0 bv;simp only at b0 bv;rw[bv]at hW;have S:=hS.le o _ (by rw[AS.ad _ _ l,AS.aj]);rw[xt]at S;have cd:=fun σ=>A1 bb rs .aE (.tok I) (decide (bb= [])) (decide (rs= [])) hW σ;have bs:xR d.sp m=cm bb rs:=by unfold xR;rw[hE,bv]
  obtain⟨w0,W0,ce⟩:=F7 bb rs;rw[ce]at bs;rw[ce]at cd;simp only[za]at cd;refine gO dh (j3 hlt @S @aI) @cd ?_;intro tw b5;have ew:=hS.own (b:= .tok (W0.length+1)) b5;have d6:AS.le B ((((B.set id3 M).set o (rq bb rs I)).set I (.tok rs.length)).set tw (.tok (W0.length+1))):=by
   have f3:B id3=none:=h.mP a3;have f10:B o=none:=by simpa[AS.set,U]using h4.mP Q
   have fk:B I=none:=by simpa[AS.set,ab]using h4.mP a2
   have fw:B tw=none:=by
    have:=hS.mP b5;rcases Nat.decEq tw id3 with e3|e3
    ·rcases Nat.decEq tw o with c0|c0
     ·rcases Nat.decEq tw I with ek|ek
      ·simpa[AS.set,e3,c0,ek]using this
      ·rw[ek];exact fk
     ·rw[c0];exact f10
    ·rw[e3];exact f3
   exact AS.ah (AS.ah (AS.ah (AS.ah (lR _) f3) f10) fk) fw
  have et:=ew.drop d6;generalize (τ'.set tw (.tok (W0.length+1)))=S0 at*;obtain⟨pd,X,dn⟩:∃pd:Nat,pd=(if w0.toNat%4=3 then(4-d.co.length%4)%4 else 0)∧qZ d.co (xR d.sp m)=d.co++List.replicate pd 0:=by refine⟨_,rfl,?_⟩;rw[bs,qZ];by_cases h3:w0.toNat%4=3<;>simp[h3]
  refine gO dh (j3 E @r3 H) tI ?_;refine ae.bp (α:=(Nat)×(AS)) ((0,S0)) (fun⟨j,τ2⟩=>pd-j) (fun⟨j,τ2⟩=>j≤pd∧SI k g { d with sp:=sp,co:=d.co++List.replicate j 0 } T B τ2) [(0,?_),(4,?_)] (fun⟨j,τ2⟩=> [(15,.an 5 ((w0::W0).map u8) .aE false)]) (fun⟨j,τ2⟩=>τ2) ?_ ?_ ?_ ?_;rotate_left 2
  ·exact gF tI
  ·(try dsimp only);exact lR _
  ·exact⟨by omega,by simpa using et⟩
  intro x_ ar;obtain⟨j,τ2⟩:=x_;try dsimp only at ar⊢
  obtain⟨hj,ac⟩:=ar;simp only[gj];have ci:(d.co++List.replicate j 0).length=d.co.length+j:=by simp
  have d3:d.co++List.replicate (j+1) 0=(d.co++List.replicate j 0)++ [0]:=by rw[List.replicate_succ',List.append_assoc]
  have b3:j=pd→qZ d.co (xR d.sp m)=d.co++List.replicate j 0:=fun e=>by rw[dn,e]
  generalize fz:d.co++List.replicate j 0=Y at*;have a9:=ac.aT;have ck:=ac.tC;obtain⟨_,_,_,_,_,O,_⟩:=ac.ne;simp only[eE]at a9;have d4:=RV X hj ci ei;have d5:=yn hW;rw[ce,List.length_cons]at d5;have e5:=N5 (c:=0) d4 d5;have c8:IntKind.i64.wrap ((Y.length:Int)+1)=(Y.length:Int)+1:=ay (by clear X hj;omega) (by clear X hj;omega);have cl:IntKind.u8.wrap (lF 8 ((w0.toNat:Nat):Int) 3)=((w0.toNat:Nat):Int)%4:=by have:=w0.toNat_lt;have h1:=jA (w:=8) (a:=((w0.toNat:Nat):Int)) 2 (by omega) (by omega) (by omega);rw[show((2:Int)^2-1)=3 from rfl,show((2:Int)^2)=4 from rfl]at h1;rw[h1,A6];omega
  have v:¬k.aT=k.tC:=O;have c2:=aA O;by_cases a8:w0.toNat%4=3
  ·rw[if_pos a8]at X;have be:(((w0.toNat:Nat):Int)%4=3)=True:=eq_true (by exact_mod_cast a8);obtain⟨ec,c5⟩:=OA X hj ci;by_cases bc:j<pd
   ·have ch:((Y.length:Int).tmod 4=0)=False:=ec bc;refine gO dh (j6 @a9 @ck @cl @be v @ch) tI ?_;refine aP.mk ((j+1,(τ2.set k.tC (.tok (Y.length+1))).set k.aT (.cells 74 (vZ k g { d with sp:=sp,co:=Y++ [0] } 0)))) (by(try dsimp only);omega) (gF tI) (by(try dsimp only);exact le_eq (by simp[eE])) ?_;try dsimp only
    refine⟨bc,?_⟩;have:=ac.Dn (Y++ [0]);rw[AS.set_comm v,List.length_append]at this;rw[d3];exact this
   ·have ch:((Y.length:Int).tmod 4=0)=True:=(c5 bc).1;refine gO dh (j6 @a9 @ck @cl @be v @ch) tI ?_;have hz:=ac.Dn (Y++w0::W0);rw[AS.set_comm v,List.length_append]at hz;have a1:=b3 (c5 bc).2;refine⟨.sc (.int .i64 ((Y.length:Int)+1)),(τ2.set k.tC (.tok (Y.length+(W0.length+1)))).set k.aT (.cells 74 (vZ k g { d with sp:=sp,co:=Y++w0::W0 } 0)),iR (by rw[c8]),le_eq (by simp[eE]),?_,?_⟩
    ·rw[a1]
    ·rw[a1,b0,bs];exact hz
  ·rw[if_neg a8]at X;have be:(((w0.toNat:Nat):Int)%4=3)=False:=eq_false (by exact_mod_cast a8);refine gO dh (j5 @a9 @ck @cl @be v) tI ?_;have hz:=ac.Dn (Y++w0::W0);rw[AS.set_comm v,List.length_append]at hz;have a1:=b3 (by rw[X]at hj⊢;exact Nat.le_zero.1 hj);refine⟨.sc (.int .i64 ((Y.length:Int)+1)),(τ2.set k.tC (.tok (Y.length+(W0.length+1)))).set k.aT (.cells 74 (vZ k g { d with sp:=sp,co:=Y++w0::W0 } 0)),iR (by rw[c8]),le_eq (by simp[eE]),?_,?_⟩
   ·rw[a1]
   ·rw[a1,b0,bs];exact hz
end Im
end Go.Proofs.YtknalmoackcpbaaGreat
