/- Chapter 10: what a formed image gives for saving. -/
import Derived.Test.YtknalmoackcpbaaGreatRows
import Derived.JoinedCond
import Derived.Test.YtknalmoackcpbaaGreatRtM
import Derived.Test.YtknalmoackcpbaaGreatEvOp
set_option maxRecDepth 100000
set_option maxHeartbeats 3200000
set_option linter.all false
open Go Go.AW
namespace Go.Proofs.YtknalmoackcpbaaGreat
namespace Im
open Rg (Cl dH dp je)
open Sg (dN LZ wA bI iJ fX cD eS)
theorem xQ {t:Ty}(h:aV t=true):(dN t).length<=9:=by
 obtain⟨h0,h1,q,o⟩:=Sg.k9 h;have l:(wA t).length<=5:=by
  have j:∀n:Int,0<=n->n<=1000->(bG n).length<=4:=λn a b=>(Pl.di n a (by omega)).2;unfold wA;split
  .simp
  split
  .simp
  split
  .simp
  split
  .simp
  split
  .have:=j (4*(t.index+1)) (by omega) (by omega);simp only[List.length_cons];omega
  split
  .have:=j (4*(t.index+1)) (by omega) (by omega);simp only[List.length_cons];omega
  .have:=j t.index (by omega) (by omega);simp only[List.length_cons];omega
 unfold dN;rw[List.length_append,List.length_append,List.length_replicate];split<;>simp only[List.length_cons,List.length_nil]<;>omega
theorem Cf:∀(l:List Ty),(∀t∈l,aV t=true)->(LZ l).length<=9*l.length
 |[],_ =>by simp[LZ]
 |t::r,h=>by have h1:=xQ (h t (List.mem_cons_self ..));have n:=Cf r λy j=>h y (List.mem_cons_of_mem _ j);simp only[LZ,List.flatMap_cons,List.length_append,List.length_cons]at n|-;omega
theorem JT (t:Ty):(bI (iJ t)).length<=9:=by
 unfold iJ;split
 .exact xQ (by assumption)
 .simp[bI]
theorem JV (t:Ty):(bI (fX t)).length<=10:=by
 unfold fX;split
 .rename_i h;have:aV t=true:=Sg.ot (by unfold cq at h;rw[Bool.and_eq_true]at h;exact h.1);have:=xQ this;simp only[bI,List.length_cons];omega
 .simp[bI]
theorem EM (l:List Ty):(bI (cD l)).length<=200:=by
 unfold cD;split
 .simp[bI]
 split
 .rename_i h1 h;have:=Cf l λt ht=>Sg.ot (by rw[List.all_eq_true]at h;exact h t ht);simp only[bI,Sg.L3,List.length_cons];omega
 .simp[bI]
theorem EL (s:Sg.Sg):(bI (eS s)).length<=200:=by
 unfold eS;split
 .simp[bI]
 split
 .rename_i h1 h;rw[Bool.and_eq_true,List.all_eq_true]at h;have l:=Cf s.ps λt ht=>Sg.ot (h.1 t ht);have j:=xQ (Sg.y3 h.2);simp only[bI,Sg.LB,List.length_cons,List.length_append];omega
 .simp[bI]
theorem D0 (g:bZ):∀b∈dm g,b.length<=300:=by
 intro b j;simp only[dm,Bq,CG,xE,List.mem_append,List.mem_map]at j;rcases j with(((⟨x,_,rfl⟩|⟨x,_,rfl⟩)|⟨x,_,rfl⟩)|⟨x,_,rfl⟩)
 .have:=JV x.ty;omega
 .have:=EL (Lz x);omega
 .have:=JT x;omega
 .have:=EM x;omega
theorem zu {g:bZ}{i:Nat}(h:i<g.ms.length):uy g (i+1)=(vY (uy g i) g.ms[i]).1:=rA h
theorem ux {g:bZ}(h:Ml g) (u:∀m∈g.ms,∀x∈m.code,Cd.ez x) {i:Nat}(j:i<g.ms.length) (o:g.ms[i].code≠ []):Qg (uy g i).sp g.ms[i]:=by have l:=(h.m _ (List.getElem_mem j)).2.2;have q:=(BE h (i+1)).1;rw[zu j]at q;simp only[vY,sx,if_neg o]at q;exact KU (by omega) o l.code (λx n=>⟨l.ins x n,u _ (List.getElem_mem j) x n⟩) l.SO
theorem BD {g:bZ}(h:Ml g) (j:∀m∈g.ms,∀x∈m.code,Cd.ez x):∀i,i<=g.ms.length->(uy g i).co.length<=100003*i
 |0,_ =>by rw[Gz];simp[mI]
 |i+1,u=>by
  have o:=BD h j i (by omega);rw[zu (show i<g.ms.length by omega)];simp only[vY,sx];split
  .simp only;omega
  .rename_i l;have n:=ux h j (show i<g.ms.length by omega) l;have hw:(xR (uy g i).sp (g.ms[i]'(by omega))).length<=100000:=ru n.right;simp only[List.length_append];have q:(qz (uy g i).co (xR (uy g i).sp (g.ms[i]'(by omega)))).length<=(uy g i).co.length+3:=by
    unfold qz;split
    .simp only[List.length_append,List.length_replicate];omega
    .omega
   omega
theorem DK {g:bZ}(h:Ml g) (n:∀m∈g.ms,∀x∈m.code,Cd.ez x) (hn:∀m∈g.ms,(m.cn=true->m.code= [])∧(m.ln=true->m.ls= [])):tu g:=by
 have q:∀i,¬i<g.ms.length->uy g i=uy g g.ms.length:=λi j=>by unfold uy;rw[List.take_of_length_le (by omega),List.take_of_length_le (by omega)]
 refine⟨h.ts,h.fs,h.ms,λt ht=> ?_,λi j=> ?_,λi=>by have:=(BE h i).1;unfold uy at this;omega,λi=>(BE h i).2,λi x o=>by have:=((Db h i).2 x o).1;omega,λi=> ?_,by have:=h.en;have:=h.ms;omega⟩
 .have w:=h.t t ht;have:=h.ts;have:=w.ext;exact⟨by omega,w.U0,λx o=>by have:=w.fc x o;omega⟩
 .have hm:=List.getElem_mem j;have l:=(h.m _ hm).2.2;have y:=(si l.SO);refine⟨l.code,by omega,(hn _ hm).1,(hn _ hm).2,λv c u=>KR (ux h n j v).UI (y.2 c u),λv=>(ux h n j v).right,l.fl,by have:=l.ps;omega,by have:=l.ls;omega⟩
 .have hm:=h.ms;by_cases j:i<g.ms.length
  .have:=BD h n i (by omega);unfold uy at this;omega
  .have h1:=q i j;have:=BD h n g.ms.length (Nat.le_refl _);rw[<-h1]at this;unfold uy at this;omega
open Go.Proofs.Tryz
open Rg (Cl jg bw)
def nT (t:TD):Bool:=decide (20<t.bO.length∨100<t.name.length)
def lg (m:Mt):Bool:=decide (30<m.ps.length∨30<m.ls.length∨200<m.code.length∨20<m.cls.length∨100<m.name.length)
def u0 (g:bZ):Bool:=decide (40<g.ts.length∨80<g.fs.length∨80<g.ms.length)||(g.ts.any nT||g.ms.any lg)
theorem Ea {α:Type}{p:α->Bool}{l:List α}{i:Nat}(h:i<l.length) (j:p l[i]=true):l.any p=true:=by rw[List.any_eq_true];exact⟨_,List.getElem_mem h,j⟩
theorem any_none {α:Type}{p:α->Bool}{l:List α}{i:Nat}(h:¬i<l.length) (h1:∀x∈l.take i,p x=false):l.any p=false:=by
 rw[List.take_of_length_le (by omega)]at h1;cases e:l.any p with
 |false=>rfl
 |true=>rw[List.any_eq_true]at e;obtain⟨x,n,j⟩:=e;rw[h1 x n]at j;cases j
theorem A8 {α:Type}{p:α->Bool}{l:List α}{i:Nat}(h:i<l.length) (h1:∀x∈l.take i,p x=false) (n:p l[i]=false):∀x∈l.take (i+1),p x=false:=by
 intro x j;rw[List.take_succ_eq_append_getElem h]at j;rcases List.mem_append.1 j with j|j
 .exact h1 x j
 .simp at j;rw[j];exact n
theorem Ki (g:bZ) (h1:g.ts.length<=140737488355328) (h2:g.ms.length<=140737488355328) (σ:AS):
 ad prog 8 [lp g] σ (aq (.sc (.bool (u0 g))) σ) No:=by
 unfold u0;generalize F:decide (40<g.ts.length∨80<g.fs.length∨80<g.ms.length)=d0;generalize T:g.ts.any nT=Y;generalize V:g.ms.any lg=Z;simp only[aN];refine ad.ob func8 ?_;refine gO aa tI tI ?_;intro id X;by_cases a1:40<g.ts.length
 .have E:(40<(g.ts.length:Int))=True:=by simp;omega
  obtain rfl:d0=true:=by rw[<-F];simp;omega
  refine gO aa @E tI ?_;all_goals exact gJ tI
 .have E:(40<(g.ts.length:Int))=False:=by simp;omega
  by_cases a2:80<g.fs.length
  .have H:(80<(g.fs.length:Int))=True:=by simp;omega
   obtain rfl:d0=true:=by rw[<-F];simp;omega
   refine gO aa (j2 @E @H) tI ?_;all_goals exact gJ tI
  .have H:(80<(g.fs.length:Int))=False:=by simp;omega
   by_cases a3:80<g.ms.length
   .have M:(80<(g.ms.length:Int))=True:=by simp;omega
    obtain rfl:d0=true:=by rw[<-F];simp;omega
    refine gO aa (j3 @E @H @M) tI ?_;all_goals exact gJ tI
   .have M:(80<(g.ms.length:Int))=False:=by simp;omega
    obtain rfl:d0=false:=by rw[<-F];simp;omega
    refine gO aa (j3 @E @H @M) tI ?_;refine aA.aY (α:=(Nat)) (0) (λi=>g.ts.length-i) (λi=>i<=g.ts.length∧ ∀x∈g.ts.take i,nT x=false) [(1,?_)] (λi=> [(3,zI i)]) (λi=>σ.set id (.cells 26 (lp g).cells)) ?_ ?_ ?_ ?_;rotate_left 1
    .exact gF tI
    .exact gT
    ·(try dsimp only)<;>first|exact trivial|exact⟨by omega,rfl⟩|omega|(simp;done)|exact⟨by omega,by simp⟩|exact⟨by omega,by simp,rfl⟩
    intro i A;try dsimp only at A|-
    obtain⟨af,Q⟩:=A;simp only[fm];by_cases l:i<g.ts.length
    .have J:zW ((i:Int)+1)=((i+1:Nat):Int):=bh (by omega);have n:nT g.ts[i]=true->Y=true:=λh=>by rw[<-T];exact Ea l h
     have v:nT g.ts[i]=false-> ∀y∈g.ts.take (i+1),nT y=false:=λh=>A8 l Q h;generalize O:g.ts[i]=t at*;by_cases b1:20<t.bO.length
     .have o:(20<(t.bO.length:Int))=True:=by simp;omega
      rw[n (by unfold nT;simp;omega)];refine gO aa (j6 @l @O @cK @aN @o @ae) tI ?_;all_goals exact gJ tI
     .have o:(20<(t.bO.length:Int))=False:=by simp;omega
      by_cases b2:100<t.name.length
      .have q:(100<(t.name.length:Int))=True:=by simp;omega
       rw[n (by unfold nT;simp;omega)];refine gO aa (j8 @l @O @cK @aN @o @q @ae @J) tI ?_;all_goals exact gJ tI
      .have q:(100<(t.name.length:Int))=False:=by simp;omega
       refine gO aa (j8 @l @O @cK @aN @o @q @ae @J) tI ?_;refine aH.mk (i+1) (by(try dsimp only);omega) (gF tI) gT ?_;try dsimp only
       exact⟨l,v (by unfold nT;simp;omega)⟩
    .have S:Y=false:=by rw[<-T];exact any_none l Q
     rw[S];refine gO aa (j3 @l @aN @ae) tI ?_;refine aA.aY (α:=(Nat)) (0) (λj=>g.ms.length-j) (λj=>j<=g.ms.length∧ ∀x∈g.ms.take j,lg x=false) [(1,?_)] (λj=> [(4,zI j)]) (λj=>σ.set id (.cells 26 (lp g).cells)) ?_ ?_ ?_ ?_;rotate_left 1
     .exact gF tI
     .exact gT
     ·(try dsimp only)<;>first|exact trivial|exact⟨by omega,rfl⟩|omega|(simp;done)|exact⟨by omega,by simp⟩|exact⟨by omega,by simp,rfl⟩
     intro j A;try dsimp only at A|-
     obtain⟨ac,P⟩:=A;simp only[fm];by_cases u:j<g.ms.length
     .have I:zW ((j:Int)+1)=((j+1:Nat):Int):=bh (by omega);have n:lg g.ms[j]=true->Z=true:=λh=>by rw[<-V];exact Ea u h
      have v:lg g.ms[j]=false-> ∀y∈g.ms.take (j+1),lg y=false:=λh=>A8 u P h;generalize O:g.ms[j]=m at*;refine gO aa (j5 @u @O @aT @aN @ae) tI ?_;intro ab w K;by_cases b1:30<m.ps.length
      .have o:(30<(m.ps.length:Int))=True:=by simp;omega
       rw[n (by unfold lg;simp;omega)];refine gO aa @o tI ?_;all_goals exact gJ tI
      .have o:(30<(m.ps.length:Int))=False:=by simp;omega
       by_cases b2:30<m.ls.length
       .have q:(30<(m.ls.length:Int))=True:=by simp;omega
        rw[n (by unfold lg;simp;omega)];refine gO aa (j2 @o @q) tI ?_;all_goals exact gJ tI
       .have q:(30<(m.ls.length:Int))=False:=by simp;omega
        by_cases b3:200<m.code.length
        .have D:(200<(m.code.length:Int))=True:=by simp;omega
         rw[n (by unfold lg;simp;omega)];refine gO aa (j3 @o @q @D) tI ?_;all_goals exact gJ tI
        .have D:(200<(m.code.length:Int))=False:=by simp;omega
         by_cases b4:20<m.cls.length
         .have G:(20<(m.cls.length:Int))=True:=by simp;omega
          rw[n (by unfold lg;simp;omega)];refine gO aa (j4 @o @q @D @G) tI ?_;all_goals exact gJ tI
         .have G:(20<(m.cls.length:Int))=False:=by simp;omega
          by_cases b5:100<m.name.length
          .have L:(100<(m.name.length:Int))=True:=by simp;omega
           rw[n (by unfold lg;simp;omega)];refine gO aa (j6 @o @q @D @G @L @I) tI ?_;all_goals exact gJ tI
          .have L:(100<(m.name.length:Int))=False:=by simp;omega
           refine gO aa (j6 @o @q @D @G @L @I) tI ?_;refine aH.mk (j+1) (by(try dsimp only);omega) (gF tI) (by(try dsimp only);exact aw (by simp[w,K]) (lR _)) ?_;try dsimp only
           exact⟨u,v (by unfold lg;simp;omega)⟩
     .have U:Z=false:=by rw[<-V];exact any_none u P
      rw[U];refine gO aa (j3 @u @aN @ae) tI ?_;all_goals exact gJ tI
def AL (t:TD):TD:= { t with fn:=t.bO.isEmpty }
def tq (m:Mt):Mt:= { m with pn:=m.ps.isEmpty,ln:=m.ls.isEmpty,cn:=m.code.isEmpty,xn:=m.cls.isEmpty }
def jb (g:bZ):bZ:= { g with ts:=g.ts.map AL,tn:=g.ts.isEmpty,fn:=g.fs.isEmpty,ms:=g.ms.map tq,mn:=g.ms.isEmpty }
structure Sh (g:bZ):Prop where
 ts:g.ts.length<=40
 fs:g.fs.length<=80
 ms:g.ms.length<=80
 t:∀t∈g.ts,t.bO.length<=20
 m:∀m∈g.ms,m.ps.length<=30∧m.ls.length<=30∧m.code.length<=200∧m.cls.length<=20
theorem Li {P:Program}{a b c d u q o n:AV}(h1:AV.Wk P a u) (y:AV.Wk P b q) (w:AV.Wk P c o) (v:AV.Wk P d n):AV.Wk P (.agg [a,b,c,d]) (.agg [u,q,o,n]):=by
 intro G x h;cases h with
 |agg vs l h=>
  refine .agg vs l λi j=> ?_
  match i,j with
  |0,j=>exact h1 _ _ (h 0 j)
  |1,j=>exact y _ _ (h 1 j)
  |2,j=>exact w _ _ (h 2 j)
  |3,j=>exact v _ _ (h 3 j)
theorem tell {P:Program}{n:Nat}{ds:List Deferred}{c:Code}{Q:AQ}{s:Fr}{σ:AS}(id:Nat) {ty:TypeId}{cs:List AV}(cs':List AV) (σ':AS) (l:σ id=some (.cells ty cs)) (hl:cs'.length=cs.length)
 (q:∀k,k<cs'.length->AV.Wk P (cs.getD k .any) (cs'.getD k .any)) (hle:∀j,¬j=id-> ∀y,σ' j=some y->σ j=some y)
 (h:aA P n ds c Q s (σ'.set id (.cells ty cs'))):aA P n ds c Q s σ:=
 aA.Tq id cs' l hl q (aA.weaken h (λ_ =>Wk.refl _) (λj y o=>by
  by_cases e:j=id
  .subst e;simpa[AS.set]using o
  .simp[AS.set,e]at o|-;exact hle j e y o))
theorem Fw (g:bZ) (hS:Sh g) (σ:AS):ad prog 10 [lp g] σ (aq (lp (jb g)) σ) No:=by
 have hd:=hS.ts;have hb:=hS.fs;have g7:=hS.ms;simp only[aN];refine ad.ob func10 ?_;refine gO aa tI tI ?_;intro U eb;refine gO aa tI tI ?_;intro T M ea;have a9:=ba M;refine gO aa M tI ?_;intro o w n d9;have a7:=ba w;have a8:=ba n;refine gO aa tI tI ?_;refine aA.sI o 0 46 [] true (ty:=26) (cs:= [.aC,.aC,.aC,zI g.entry]) (by simp) (by simp) (.inr ⟨by simp,rfl,rfl⟩) ?_;simp-implicitDefEqProofs;intro tA u bf A f3;have ac:=ba u;obtain⟨B,f9,a0,ca,c2,fz⟩:=Dr σ (.cells 26 [.ah 46 (g.ts.map jD) .aJ g.tn,.ah 56 (g.fs.map lu) .aJ g.fn,.ah 53 (g.ms.map fM) .aJ g.mn,zI g.entry]) (.cells 26 [.aC,.aC,.aC,zI 0]) eb ea a9;simp only[f9];clear f9;have gh:B o=none:=by rw[c2 o n w];exact d9
 have ge:B tA=none:=by rw[c2 tA A bf];exact f3
 refine aA.aY (α:=(Nat)) (0) (λi=>g.ts.length-i) (λi=>i<=g.ts.length) [(1,?_),(2,?_),(3,?_)] (λi=> [(4,zI i)]) (λi=>(B.set o (.cells 26 [.ah 46 (((g.ts.take i).map AL).map jD) (.tok tA) (decide (i=0)),.aC,.aC,zI g.entry])).set tA (.tok i)) ?_ ?_ ?_ ?_;rotate_left 3
 .exact gF tI
 .exact gT
 ·(try dsimp only)<;>first|exact trivial|exact⟨by omega,rfl⟩|omega|(simp;done)|exact⟨by omega,by simp⟩|exact⟨by omega,by simp,rfl⟩
 intro i cc;try dsimp only at cc|-
 obtain hi:=cc;simp only[fm];by_cases O:i<g.ts.length
 .have fe:zW ((i:Int)+1)=((i+1:Nat):Int):=bh (by omega);have gs:=hS.t g.ts[i] (List.getElem_mem O);generalize hc:g.ts[i]=t at*;have d8:min i g.ts.length=i:=by omega
  refine gO aa (j7 O @hc @cK @ae n A @a0) tI ?_;intro id5 G v bb;have be:=ba G;have a6:=ba v;have dl:¬U=id5:=nq a0 bb;have c9:¬T=id5:=nq ca bb;refine gO aa tI tI ?_;intro t6 E J F cj;have b2:=ba E;have cb:=ba J;have b3:=ba F;have e7:¬U=t6:=nq a0 cj;have es:¬T=t6:=nq ca cj;refine gO (S:= [9]) aa E tI ?_;refine aA.Tq id5 [zS t.name,zI t.flags,zI t.ext,.ah 3 (t.bO.map iV) .aJ t.bO.isEmpty] (by simp[b2];exact⟨rfl,rfl⟩) (by simp) (λk hk=> ?_) ?_
  .match k,hk with
   |0,_ =>simp
   |1,_ =>simp
   |2,_ =>simp
   |3,_ =>simp
  refine gO aa (j8 J F E @d8 u @fe G v) tI ?_;have cd:List.take (i+1) (List.map (jD∘AL) g.ts)=List.take i (List.map (jD∘AL) g.ts)++ [jD (AL t)]:=by rw[List.take_succ_eq_append_getElem (by simpa using O)];simp[hc]
  refine aH.mk (i+1) (by(try dsimp only);omega) (gF tI) (by(try dsimp only);(intro j_ y_ l;by_cases P:j_=o;(· subst P;simp[AS.set,b3,a6,ac,cd,cK,AL]at l|-;try first|exact l|(cases l;done));by_cases c4:j_=tA;(· subst c4;simp[AS.set,cb,be]at l|-;try first|exact l|(cases l;done));by_cases c0:j_=id5;(· subst c0;simp[AS.set,G,v,bb]at l|-;try first|exact l|(cases l;done));by_cases c5:j_=t6;(· subst c5;simp[AS.set,J,F,cj]at l|-;try first|exact l|(cases l;done));simp[AS.set,P,c4,c0,c5]at l|-;try exact l)) ?_;try dsimp only
  exact O
 .obtain rfl:i=g.ts.length:=by omega
  refine gO aa (j6 O @ae n u A @a0) tI ?_;intro tF fw X ci;have ab:=ba X;have e6:¬U=tF:=nq a0 ci;have em:¬T=tF:=nq ca ci;simp-implicitDefEqProofs [ab,X,u];refine gO aa tI tI ?_;refine tell o [.ah 46 (g.ts.map (jD∘AL)) .aJ g.ts.isEmpty,.ah 56 (g.fs.map lu) .aJ g.fs.isEmpty,.aC,zI g.entry] B (by simp[ab,ac];exact⟨rfl,rfl⟩) (by simp) (λk hk=> ?_) (λj e y I=> ?_) ?_
  .match k,hk with
   |0,_ =>cases g.ts<;>simp
   |1,_ =>simp
   |2,_ =>simp
   |3,_ =>simp
  .by_cases e1:j=tF
   .subst e1;rw[ci]at I;cases I
   .by_cases e2:j=tA
    .subst e2;rw[ge]at I;cases I
    .simp[AS.set,e,e1,e2];exact I
  refine aA.sI o 2 53 [] true (ty:=26) (cs:= [.ah 46 (g.ts.map (jD∘AL)) .aJ g.ts.isEmpty,.ah 56 (g.fs.map lu) .aJ g.fs.isEmpty,.aC,zI g.entry]) (by simp) (by simp) (.inr ⟨by simp,rfl,rfl⟩) ?_;simp-implicitDefEqProofs;intro tM q ch;have Z:=ba q;have ai:¬U=tM:=nq a0 ch;have af:¬T=tM:=nq ca ch;refine aA.aY (α:=(Nat)) (0) (λj=>g.ms.length-j) (λj=>j<=g.ms.length) [(1,?_),(2,?_),(3,?_)] (λj=> [(7,zI j)]) (λj=>(B.set o (.cells 26 [.ah 46 (g.ts.map (jD∘AL)) .aJ g.ts.isEmpty,.ah 56 (g.fs.map lu) .aJ g.fs.isEmpty,.ah 53 (((g.ms.take j).map tq).map fM) (.tok tM) (decide (j=0)),zI g.entry])).set tM (.tok j)) ?_ ?_ ?_ ?_;rotate_left 3
  .exact gF tI
  .exact gT
  ·(try dsimp only)<;>first|exact trivial|exact⟨by omega,rfl⟩|omega|(simp;done)|exact⟨by omega,by simp⟩|exact⟨by omega,by simp,rfl⟩
  intro j cc;try dsimp only at cc|-
  obtain hj:=cc;simp only[fm];by_cases O:j<g.ms.length
  .have fd:zW ((j:Int)+1)=((j+1:Nat):Int):=bh (by omega);have gb:=hS.m g.ms[j] (List.getElem_mem O);generalize hc:g.ms[j]=m at*;obtain⟨g6,g5,g4,gt⟩:=gb;have dn:min j g.ms.length=j:=by omega
   obtain⟨D,hD⟩:∃D:AS,D=(B.set o (.cells 26 [.ah 46 (g.ts.map (jD∘AL)) .aJ g.ts.isEmpty,.ah 56 (g.fs.map lu) .aJ g.fs.isEmpty,.ah 53 ((g.ms.map (fM∘tq)).take j) (.tok tM) (decide (j=0)),zI g.entry])).set tM (.tok j):=⟨_,rfl⟩;have b6:D U=some (.cells 26 [.ah 46 (g.ts.map jD) .aJ g.tn,.ah 56 (g.fs.map lu) .aJ g.fn,.ah 53 (g.ms.map fM) .aJ g.mn,zI g.entry]):=by rw[hD];simp[a8,ai,a0]
   have ck:D T=some (.cells 26 [.aC,.aC,.aC,zI 0]):=by rw[hD];simp[a7,af,ca]
   have b5:D o=some (.cells 26 [.ah 46 (g.ts.map (jD∘AL)) .aJ g.ts.isEmpty,.ah 56 (g.fs.map lu) .aJ g.fs.isEmpty,.ah 53 ((g.ms.map (fM∘tq)).take j) (.tok tM) (decide (j=0)),zI g.entry]):=by rw[hD];simp[Z]
   have b4:D tM=some (.tok j):=by rw[hD];simp
   refine aA.weaken (σ':=D) ?_ (λ_ =>Wk.refl _) (by
    have e:(((g.ms.take j).map tq).map fM)=(g.ms.map (fM∘tq)).take j:=by simp[List.map_take]
    rw[hD,<-e];exact lR _)
   refine gO aa (j5 O @hc @aT @b6 @ae) tI ?_;intro Q H;have db:¬U=Q:=nq b6 H;have c8:¬T=Q:=nq ck H;have L:¬o=Q:=nq b5 H;have K:=ba L;have V:¬tM=Q:=nq b4 H;have Y:=ba V;refine gO aa tI tI ?_;intro a1 ap ay;have b1:=ba ap;have fb:¬U=a1:=nq b6 ay;have e5:¬T=a1:=nq ck ay;have ek:¬o=a1:=nq b5 ay;have fv:¬tM=a1:=nq b4 ay;refine gO (S:= [18]) aa ap tI ?_;refine tell Q [zS m.name,zI m.owner,zI m.flags,.ah 49 (m.ps.map cB) .aJ m.ps.isEmpty,zI m.ret.kind,zI m.ret.index,zI m.ret.cT,.sc (.bool m.ret.ref),.ah 49 (m.ls.map cB) .aJ m.ln,zI m.max,.ah 110 (m.code.map bJ) .aJ m.cn,.ah 158 (m.cls.map jg) .aJ m.xn] D (by simp[b1];exact⟨rfl,rfl⟩) (by simp) (λk hk=> ?_) (λq_ e y I=> ?_) ?_
   .match k,hk with
    |0,_ =>simp
    |1,_ =>simp
    |2,_ =>simp
    |3,_ =>simp
    |4,_ =>simp
    |5,_ =>simp
    |6,_ =>simp
    |7,_ =>simp
    |8,_ =>simp
    |9,_ =>simp
    |10,_ =>simp
    |11,_ =>simp
   .by_cases e2:q_=a1
    .subst e2;rw[ay]at I;cases I
    .simp[AS.set,e,e2];exact I
   refine gO aa @bq tI ?_;intro a2 am ax;have b0:=ba am;have fa:¬U=a2:=nq b6 ax;have e4:¬T=a2:=nq ck ax;have ej:¬o=a2:=nq b5 ax;have ft:¬tM=a2:=nq b4 ax;refine gO (S:= [21]) aa am tI ?_;refine tell Q [zS m.name,zI m.owner,zI m.flags,.ah 49 (m.ps.map cB) .aJ m.ps.isEmpty,zI m.ret.kind,zI m.ret.index,zI m.ret.cT,.sc (.bool m.ret.ref),.ah 49 (m.ls.map cB) .aJ m.ls.isEmpty,zI m.max,.ah 110 (m.code.map bJ) .aJ m.cn,.ah 158 (m.cls.map jg) .aJ m.xn] D (by simp[b0];exact⟨rfl,rfl⟩) (by simp) (λk hk=> ?_) (λq_ e y I=> ?_) ?_
   .match k,hk with
    |0,_ =>simp
    |1,_ =>simp
    |2,_ =>simp
    |3,_ =>simp
    |4,_ =>simp
    |5,_ =>simp
    |6,_ =>simp
    |7,_ =>simp
    |8,_ =>simp
    |9,_ =>simp
    |10,_ =>simp
    |11,_ =>simp
   .by_cases e2:q_=a2
    .subst e2;rw[ax]at I;cases I
    .simp[AS.set,e,e2];exact I
   refine gO aa @bq tI ?_;intro a3 al av;have bv:=ba al;have e9:¬U=a3:=nq b6 av;have e0:¬T=a3:=nq ck av;have ei:¬o=a3:=nq b5 av;have fk:¬tM=a3:=nq b4 av;refine gO (S:= [24]) aa al tI ?_;refine tell Q [zS m.name,zI m.owner,zI m.flags,.ah 49 (m.ps.map cB) .aJ m.ps.isEmpty,zI m.ret.kind,zI m.ret.index,zI m.ret.cT,.sc (.bool m.ret.ref),.ah 49 (m.ls.map cB) .aJ m.ls.isEmpty,zI m.max,.ah 110 (m.code.map bJ) .aJ m.code.isEmpty,.ah 158 (m.cls.map jg) .aJ m.xn] D (by simp[bv];exact⟨rfl,rfl⟩) (by simp) (λk hk=> ?_) (λq_ e y I=> ?_) ?_
   .match k,hk with
    |0,_ =>simp
    |1,_ =>simp
    |2,_ =>simp
    |3,_ =>simp
    |4,_ =>simp
    |5,_ =>simp
    |6,_ =>simp
    |7,_ =>simp
    |8,_ =>simp
    |9,_ =>simp
    |10,_ =>simp
    |11,_ =>simp
   .by_cases e2:q_=a3
    .subst e2;rw[av]at I;cases I
    .simp[AS.set,e,e2];exact I
   refine gO aa @bq tI ?_;intro a4 ak ar;have bs:=ba ak;have e8:¬U=a4:=nq b6 ar;have et:¬T=a4:=nq ck ar;have eg:¬o=a4:=nq b5 ar;have fi:¬tM=a4:=nq b4 ar;refine gO (S:= [27]) aa ak tI ?_;refine tell Q [zS m.name,zI m.owner,zI m.flags,.ah 49 (m.ps.map cB) .aJ m.ps.isEmpty,zI m.ret.kind,zI m.ret.index,zI m.ret.cT,.sc (.bool m.ret.ref),.ah 49 (m.ls.map cB) .aJ m.ls.isEmpty,zI m.max,.ah 110 (m.code.map bJ) .aJ m.code.isEmpty,.ah 158 (m.cls.map jg) .aJ m.cls.isEmpty] D (by simp[bs];exact⟨rfl,rfl⟩) (by simp) (λk hk=> ?_) (λq_ e y I=> ?_) ?_
   .match k,hk with
    |0,_ =>simp
    |1,_ =>simp
    |2,_ =>simp
    |3,_ =>simp
    |4,_ =>simp
    |5,_ =>simp
    |6,_ =>simp
    |7,_ =>simp
    |8,_ =>simp
    |9,_ =>simp
    |10,_ =>simp
    |11,_ =>simp
   .by_cases e2:q_=a4
    .subst e2;rw[ar]at I;cases I
    .simp[AS.set,e,e2];exact I
   refine gO aa (j8 @dn @bq q @fd L @b5 V @b4) tI ?_;have cd:List.take (j+1) (List.map (fM∘tq) g.ms)=List.take j (List.map (fM∘tq) g.ms)++ [fM (tq m)]:=by rw[List.take_succ_eq_append_getElem (by simpa using O)];simp[hc]
   have gc:B Q=none:=by rw[hD]at H;simpa[AS.set,Y,K]using H
   subst hD;refine aH.mk (j+1) (by(try dsimp only);omega) (gF tI) (by(try dsimp only);(intro j_ y_ l;by_cases P:j_=o;(· subst P;simp[AS.set,Z,cd,aT,tq]at l|-;try first|exact l|(cases l;done));by_cases c3:j_=tM;(· subst c3;simp[AS.set,q]at l|-;try first|exact l|(cases l;done));by_cases cv:j_=Q;(· subst cv;simp[AS.set,Y,K,gc]at l|-;try first|exact l|(cases l;done));simp[AS.set,P,c3,cv]at l|-;try exact l)) ?_;try dsimp only
   exact O
  .obtain rfl:j=g.ms.length:=by omega
   refine gO aa (And.intro (j7 O @ae w n @a0 @ca q) (j2 ai af)) tI ?_;refine⟨Li ?_ ?_ ?_ (by simp[jb]),?_⟩
   .simp[jb]
   .simp[jb]
   .cases h:g.ms<;>simp[jb,h]
   refine fz _ λj e1 e2 y I=> ?_;have e3:j≠o:=nq gh I;have eo:j≠tM:=nq ch I;simp[AS.set,e2,e3,eo,I]
theorem zh (S:List Nat):cu prog [(6,(.S 0 (.S 1 (.S 2 (.S 4 (.S 5 (.S 6 (.R 3 (.R 7 (.S 8 .D))))))))))] S:=mixed
theorem rl (S:List Nat):cu prog [(6,(.S 0 (.S 2 (.S 5 (.S 7 (.R 1 (.S 3 (.R 4 (.R 6 (.S 8 (.R 9 (.S 10 .D))))))))))))] S:=mixed
theorem iZ (S:List Nat):cu prog [(13,(.S 0 (.S 2 (.S 5 (.S 7 (.R 1 (.S 3 (.R 4 (.R 6 (.S 8 (.R 9 (.S 10 .D)))))))))))),(18,(.S 0 (.S 2 (.S 5 (.S 7 (.R 1 (.S 3 (.R 4 (.R 6 (.S 8 (.R 9 (.A 10 (.S 11 .D) .Z))))))))))))] S:=mixed
theorem Tx:Program.stoodInHeld prog 110=false:=by kernel_rfl
@[simp] theorem T6:Program.eqGuardType prog prog.depth 110=false:=by kernel_rfl
theorem TC:Program.stoodInHeld prog 158=false:=by kernel_rfl
@[simp] theorem T8:Program.eqGuardType prog prog.depth 158=false:=by kernel_rfl
theorem Tz:Program.stoodInHeld prog 56=false:=by kernel_rfl
@[simp] theorem T7:Program.eqGuardType prog prog.depth 56=false:=by kernel_rfl
theorem Ns (a b k i d:Int) (r:Bool):gP prog 8 110 (.agg [zI a,zI b,zI k,zI i,zI d,zB r]) (.agg [zI a,zI b,zI k,zI i,zI d,zB r])=some true:=by simp[gP,ng,underlying110,underlying49,underlying3,underlying2,underlying4]
theorem Nu (a b c d e f k i x:Int) (r:Bool):gP prog 8 158 (.agg [zI a,zI b,zI c,zI d,zI e,zI f,zI k,zI i,zI x,zB r]) (.agg [zI a,zI b,zI c,zI d,zI e,zI f,zI k,zI i,zI x,zB r])=some true:=by simp[gP,ng,underlying158,underlying49,underlying3,underlying4]
theorem Nt (s:ByteArray) (o k i d:Int) (r st:Bool):gP prog 8 56 (.agg [.sc (.string s),zI o,zI k,zI i,zI d,zB r,zB st]) (.agg [.sc (.string s),zI o,zI k,zI i,zI d,zB r,zB st])=some true:=by simp[gP,ng,underlying56,underlying49,underlying9,underlying3,underlying4]
theorem Kr (l:List dM) (u q:cA) (n1 n2:Bool) (hl:l.length<=140737488355328) (σ:AS):
 ad prog 96 [.ah 110 (l.map bJ) u n1,.ah 110 (l.map bJ) q n2] σ (aq (zB true) σ) No:=by
 refine ad.ob func96 ?_;refine gO zh tI tI ?_;refine aA.aY (α:=(Nat)) (0) (λi=>l.length-i) (λi=>i<=l.length) [(0,?_),(1,?_)] (λi=> [(5,zI i)]) (λi=>σ) ?_ ?_ ?_ ?_;rotate_left 2
 .exact gF tI
 .exact gT
 .exact Nat.zero_le _
 intro i o;try dsimp only at o|-
 obtain w:=o;simp only[fm];by_cases j:i<l.length
 .have n:zW ((i:Int)+1)=((i+1:Nat):Int):=bh (by omega);generalize v:l[i]=x at*;refine gO zh (j6 j @v @eu @Ns @ae @n) tI ?_;refine aH.mk (i+1) (by(try dsimp only);omega) (gF tI) gT ?_;try dsimp only
  exact j
 .exact gE zh (j2 j @ae) tI;all_goals exact gJ tI
theorem Jv (l D:Mt) (he:tq l=tq D) (h1:l.ps.length<=1000000) (G:l.ls.length<=1000000) (V:l.code.length<=1000000) (U:l.cls.length<=1000000) (σ:AS):
 ad prog 42 [fM l,fM D] σ (aq (zB true) σ) No:=by
 obtain⟨nm,H,fl,ps,pn,rt,ls,ln,mx,co,cn,cl,xn⟩:=l;obtain⟨O,M,X,L,q,K,Q,u,P,Y,y,Z,A⟩:=D;simp only[tq,Mt.mk.injEq]at he;obtain⟨rfl,rfl,rfl,rfl,_,rfl,rfl,_,rfl,rfl,_,rfl,_⟩:=he;simp only at h1 G V U;have I:=λσ=>Sg.mP ps ps .aJ .aJ pn q h1 h1 σ;have w:=λσ=>Sg.mP ls ls .aJ .aJ ln u G G σ;have T:=λσ=>Kr co .aJ .aJ cn y (by omega) σ;simp only[decide_true]at I w;simp only[aT];refine ad.ob func42 ?_;refine gO rl tI tI ?_;intro id J;refine gO rl tI tI ?_;intro E j F;refine gO rl j tI ?_;refine aA.aY (α:=(Nat)) (0) (λi=>cl.length-i) (λi=>i<=cl.length) [(2,?_),(3,?_)] (λi=> [(5,zI i)]) (λi=>(σ.set id (.cells 53 (fM ⟨nm,H,fl,ps,pn,rt,ls,ln,mx,co,cn,cl,xn⟩).cells)).set E (.cells 53 (fM ⟨nm,H,fl,ps,q,rt,ls,u,mx,co,y,cl,A⟩).cells)) ?_ ?_ ?_ ?_;rotate_left 2
 .exact gF tI
 .exact gT
 .exact Nat.zero_le _
 intro i v;try dsimp only at v|-
 obtain hi:=v;simp only[fm];by_cases n:i<cl.length
 .have o:zW ((i:Int)+1)=((i+1:Nat):Int):=bh (by omega);generalize S:cl[i]=x at*;refine gO rl (j8 n @S j @aT @bw @Nu @ae @o) tI ?_;refine aH.mk (i+1) (by(try dsimp only);omega) (gF tI) gT ?_;try dsimp only
  exact n
 .refine gO rl (j4 n j @aT @ae) (j3 @I @w @T) ?_;all_goals exact gJ tI
structure Uc (g:bZ):Prop where
 ts:g.ts.length<=1000000
 fs:g.fs.length<=1000000
 ms:g.ms.length<=1000000
 t:∀t∈g.ts,t.bO.length<=1000000
 m:∀m∈g.ms,m.ps.length<=1000000∧m.ls.length<=1000000∧m.code.length<=1000000∧m.cls.length<=1000000
theorem HO {α β:Type}{f:α->β}{l m:List α}(h:l.map f=m.map f) {i:Nat}(j:i<l.length):∃n:i<m.length,f l[i]=f m[i]:=by
 have hl:l.length=m.length:=by have:=congrArg List.length h;simpa using this
 refine⟨by omega,?_⟩;have h1:(l.map f)[i]? =(m.map f)[i]? :=by rw[h]
 simpa[List.getElem?_map,j,show i<m.length by omega]using h1
theorem tD (g1 g2:bZ) (he:jb g1=jb g2) (hS:Uc g1) (σ:AS):ad prog 15 [lp g1,lp g2] σ (aq (zB true) σ) No:=by
 obtain⟨ts,tn,fs,fn,ms,mn,en⟩:=g1;obtain⟨o,D,a8,L7,u,E,bs⟩:=g2;simp only[jb,bZ.mk.injEq]at he;obtain⟨hT,_,rfl,_,hM,_,rfl⟩:=he;have a5:ts.length=o.length:=by have:=congrArg List.length hT;simpa using this
 have a7:ms.length=u.length:=by have:=congrArg List.length hM;simpa using this
 have al:((ts.length:Int)=o.length)=True:=by simp;omega
 have am:((ms.length:Int)=u.length)=True:=by simp;omega
 obtain⟨b1,b2,b3,b4,b5⟩:=hS;simp only at b1 b2 b3 b4 b5;simp only[aN];refine ad.ob func15 ?_;refine gO iZ tI tI ?_;intro id V;refine gO iZ tI tI ?_;intro A y H;have w:=ba y;have k1:((σ.set id (.cells 26 [.ah 46 (ts.map jD) .aJ tn,.ah 56 (fs.map lu) .aJ fn,.ah 53 (ms.map fM) .aJ mn,zI en])).set A (.cells 26 [.ah 46 (o.map jD) .aJ D,.ah 56 (fs.map lu) .aJ L7,.ah 53 (u.map fM) .aJ E,zI en])) id=some (.cells 26 [.ah 46 (ts.map jD) .aJ tn,.ah 56 (fs.map lu) .aJ fn,.ah 53 (ms.map fM) .aJ mn,zI en]):=by rw[AS.ag _ _ w,AS.aD]
 have O:((σ.set id (.cells 26 [.ah 46 (ts.map jD) .aJ tn,.ah 56 (fs.map lu) .aJ fn,.ah 53 (ms.map fM) .aJ mn,zI en])).set A (.cells 26 [.ah 46 (o.map jD) .aJ D,.ah 56 (fs.map lu) .aJ L7,.ah 53 (u.map fM) .aJ E,zI en])) A=some (.cells 26 [.ah 46 (o.map jD) .aJ D,.ah 56 (fs.map lu) .aJ L7,.ah 53 (u.map fM) .aJ E,zI en]):=AS.aD _ _ _;have hle:AS.le σ ((σ.set id (.cells 26 [.ah 46 (ts.map jD) .aJ tn,.ah 56 (fs.map lu) .aJ fn,.ah 53 (ms.map fM) .aJ mn,zI en])).set A (.cells 26 [.ah 46 (o.map jD) .aJ D,.ah 56 (fs.map lu) .aJ L7,.ah 53 (u.map fM) .aJ E,zI en])):=AS.ao (AS.ao (lR _) V) H;generalize ((σ.set id (.cells 26 [.ah 46 (ts.map jD) .aJ tn,.ah 56 (fs.map lu) .aJ fn,.ah 53 (ms.map fM) .aJ mn,zI en])).set A (.cells 26 [.ah 46 (o.map jD) .aJ D,.ah 56 (fs.map lu) .aJ L7,.ah 53 (u.map fM) .aJ E,zI en]))=S at*;refine gO iZ (j4 @k1 @O @al @am) tI ?_;refine aA.aY (α:=(Nat)) (0) (λi=>ts.length-i) (λi=>i<=ts.length) [(2,?_),(3,?_)] (λi=> [(5,zI i)]) (λi=>S) ?_ ?_ ?_ ?_;rotate_left 2
 .exact gF tI
 .exact gT
 .exact Nat.zero_le _
 intro i v;try dsimp only at v|-
 obtain hi:=v;simp only[fm];by_cases n:i<ts.length
 .obtain⟨J,I⟩:=HO hT n;have M:zW ((i:Int)+1)=((i+1:Nat):Int):=bh (by omega);have hg:ts[i]? =some ts[i]:=List.getElem?_eq_getElem n;have ak:o[i]? =some o[i]:=List.getElem?_eq_getElem J;have hf:=b4 _ (List.getElem_mem n);have F:((i:Int)<ts.length)=True:=by simp;omega
  generalize ac:ts[i]=t1 at*;generalize ab:o[i]=t2 at*;obtain⟨nm,fl,ex,fa,fb⟩:=t1;obtain⟨a3,a9,bf,be,ar⟩:=t2;simp only[AL,TD.mk.injEq]at I;obtain⟨rfl,rfl,rfl,rfl,_⟩:=I;simp only at hf;have Q:=λσ=>Pl.GL fa fa .aJ .aJ fb ar (by omega) (by omega) σ;simp only[decide_true]at Q;have T:∀l:List Int,l.map iV=l.map bg:=λl=>rfl;refine gO iZ (j6 @k1 F n @ac @cK @T) tI ?_;intro Z G;have Y:¬A=Z:=nq O G;refine gO iZ (j7 @O @Y @J @ab @cK @T @ae) tI ?_;intro a4 ap U;have X:=ba ap;refine gO iZ (j2 @X @M) @Q ?_;refine aH.mk (i+1) (by(try dsimp only);omega) (gF tI) (by(try dsimp only);exact AS.ao (AS.ao (lR _) G) U) ?_;try dsimp only
  exact n
 .have F:((i:Int)<ts.length)=False:=by simp;omega
  refine gO iZ (j2 @k1 F) tI ?_;refine aA.aY (α:=(Nat)) (0) (λj=>fs.length-j) (λj=>j<=fs.length) [(2,?_),(3,?_)] (λj=> [(8,zI j)]) (λj=>S) ?_ ?_ ?_ ?_;rotate_left 2
  .exact gF tI
  .exact gT
  .exact Nat.zero_le _
  intro j v;try dsimp only at v|-
  obtain J:=v;simp only[fm];by_cases n:j<fs.length
  .have L:zW ((j:Int)+1)=((j+1:Nat):Int):=bh (by omega);have hg:fs[j]? =some fs[j]:=List.getElem?_eq_getElem n;have F:((j:Int)<fs.length)=True:=by simp;omega
   generalize I:fs[j]=x at*;refine gO iZ (j8 @k1 @O F n @I @dq @Nt @L) tI ?_;refine aH.mk (j+1) (by(try dsimp only);omega) (gF tI) gT ?_;try dsimp only
   exact n
  .have F:((j:Int)<fs.length)=False:=by simp;omega
   refine gO iZ (j2 @k1 F) tI ?_;refine aA.aY (α:=(Nat)) (0) (λq=>ms.length-q) (λq=>q<=ms.length) [(2,?_),(3,?_)] (λq=> [(9,zI q)]) (λq=>S) ?_ ?_ ?_ ?_;rotate_left 2
   .exact gF tI
   .exact gT
   .exact Nat.zero_le _
   intro q v;try dsimp only at v|-
   obtain hq:=v;simp only[fm];by_cases n:q<ms.length
   .obtain⟨J,I⟩:=HO hM n;have K:zW ((q:Int)+1)=((q+1:Nat):Int):=bh (by omega);have hg:ms[q]? =some ms[q]:=List.getElem?_eq_getElem n;have ak:u[q]? =some u[q]:=List.getElem?_eq_getElem J;have F:((q:Int)<ms.length)=True:=by simp;omega
    obtain⟨c1,c2,c3,c4⟩:=b5 _ (List.getElem_mem n);have P:=λσ=>Jv _ _ I c1 c2 c3 c4 σ;simp only[aT]at P;generalize ai:ms[q]=m1 at*;generalize af:u[q]=m2 at*;refine gO iZ (j2 (j7 @k1 @O F n @J @ai @af) (j3 @aT @ae @K)) @P ?_;refine aH.mk (q+1) (by(try dsimp only);omega) (gF tI) gT ?_;try dsimp only
    exact n
   .have F:((q:Int)<ms.length)=False:=by simp;omega
    refine gO iZ (j2 @k1 F) tI ?_;exact hle
open Sg (dN bI fX iJ cD)
open Pl (bR bD)
theorem PD {t:Ty}{n:Int}(h:nG t n=true):aV t=true∧bI (fX t)=6::dN t∧bI (iJ t)=dN t:=by unfold nG at h;rw[Bool.and_eq_true]at h;have h1:=h.1;unfold cq aX at h1;simp only[Bool.and_eq_true,Bool.not_eq_true',decide_eq_false_iff_not]at h1;exact⟨h1.1.1,by unfold fX;rw[if_pos h.1];rfl,by unfold iJ;rw[if_pos h1.1.1];rfl⟩
theorem uN:∀(l:List dM) (sp:List Ty),sp.length+l.length<=1000000->(∀x∈l,Cd.ez x)-> ∀x∈(ct sp l).2,Cd.ez x
 |[],_,_,_ =>by simp[ct]
 |y::r,sp,hl,h=>by
  have n:∀x∈r,Cd.ez x:=λx j=>h x (List.mem_cons_of_mem _ j);have h1:=(lj sp y.t).2;have o:Bo sp y.t<=sp.length:=List.findIdx_le_length;simp only[List.length_cons]at hl;simp only[ct];split
  .intro x j;rcases List.mem_cons.1 j with rfl|j
   .unfold Cd.ez kU;simp only;omega
   .exact uN r (jJ sp y.t) (by omega) n x j
  .intro x j;rcases List.mem_cons.1 j with rfl|j
   .exact h _ (List.mem_cons_self ..)
   .exact uN r sp (by omega) n x j
theorem Nk {g:bZ}(h:Ml g) (j:∀m∈g.ms,∀x∈m.code,Cd.ez x):Ti g:=by
 refine⟨λf hf=> ?_,λt ht=> ?_,λm hm sp l=> ?_⟩
 .have:=PD (h.f f hf).2.2.2;exact⟨this.1,this.2.1⟩
 .have h1:=(Db h g.ms.length).1;rw[<-OH]at h1;have:=PD (h1 t ht);exact⟨this.1,this.2.2⟩
 .have:=(h.m m hm).2.2.code;exact uN m.code sp (by omega) (j m hm)
theorem PK (g:bZ):jb (jb g)=jb g:=by simp[jb,AL,tq,Function.comp_def]
theorem xT:∀(l:List Mt) (s:Sv),dw s (l.map tq)=dw s l
 |[],_ =>rfl
 |m::r,s=>by simp only[List.map_cons,dw];rw[show vY s (tq m)=vY s m from rfl,xT r]
theorem BC (g:bZ):cI (jb g)=cI g:=by unfold cI;rw[show(jb g).ms=g.ms.map tq from rfl,xT]
theorem MW (g:bZ):(jb g).ms.map (·.owner)=g.ms.map (·.owner):=by simp[jb,tq,Function.comp_def]
theorem HI (g:bZ):jj (jb g)=jj g:=by unfold jj rq;rw[List.take_of_length_le (Nat.le_refl _),List.take_of_length_le (Nat.le_refl _)];simp[jb,AL,tq,Function.comp_def]
theorem D1 (g:bZ):dm (jb g)=dm g:=by unfold dm Bq CG xE;rw[BC,List.take_of_length_le (Nat.le_refl _),List.take_of_length_le (Nat.le_refl _),show(jb g).ms=g.ms.map tq from rfl,List.map_map];rfl
theorem Jl (g:bZ) (nm bl:Nat->Int):dE (jb g) nm bl=dE g nm bl:=by
 have h1:bt (jb g) nm=bt g nm:=by refine List.ext_getElem (by simp[bt,jb]) λj a b=> ?_;simp only[bt,List.getElem_mapIdx,qi,MW];simp[jb,AL]
 have o:bu (jb g) nm bl=bu g nm bl:=by
  refine List.ext_getElem (by simp[bu,jb]) λj a b=> ?_;simp only[bu,List.getElem_mapIdx];have e:∀(f:Fd) (i:Nat),lx (jb g) nm bl i f=lx g nm bl i f:=λf i=>by unfold lx;rw[show(jb g).ts.length=g.ts.length by simp[jb]]
  exact e _ _
 have n:bM (jb g) nm bl=bM g nm bl:=by unfold bM;rw[show(jb g).ms=g.ms.map tq from rfl,xT];refine List.ext_getElem (by simp) λj a b=> ?_;simp only[List.getElem_mapIdx,List.getElem_zip,List.getElem_map,oh];simp[jb,tq]
 have l:bK (jb g)=bK g:=by refine List.ext_getElem (by simp[bK,jb]) λj a b=> ?_;simp only[bK,List.getElem_mapIdx];simp[jb,AL,eJ]
 have u:(jb g).fs=g.fs:=rfl;have q:(jb g).ms.length=g.ms.length:=by simp[jb]
 unfold dE cw cY;rw[h1,o,n,l,BC,u,q]
theorem HM (nt nf nm:Int):∀(l:List Mt) (last:Int),mu nt nf nm last (l.map tq)=mu nt nf nm last l
 |[],_ =>rfl
 |m::r,last=>by simp only[List.map_cons,mu,HM nt nf nm r];rfl
theorem Nl (g:bZ):As (jb g)=As g:=by unfold As Bz jb;simp only[List.length_map,HM,List.all_map];rfl
theorem GR (g:bZ):dc (jb g)=dc g:=by
 have ha:nM (jb g)=nM g:=by funext i;unfold nM;rw[HI]
 have j:pC (jb g)=pC g:=by funext i;unfold pC;rw[D1]
 unfold dc;rw[Nl,HI,D1,ha,j,Jl,BC,show(jb g).entry=g.entry from rfl]
theorem JD (g:bZ):wm (jb g)=wm g:=by unfold wm;rw[GR]
theorem OK {g:bZ}(h:u0 g=false):Sh g:=by
 unfold u0 at h;simp only[Bool.or_eq_false_iff,decide_eq_false_iff_not]at h;obtain⟨h1,l,j⟩:=h;rw[List.any_eq_false]at l j;refine⟨by omega,by omega,by omega,λt ht=> ?_,λm hm=> ?_⟩
 .have:=l t ht;simp[nT]at this;omega
 .have:=j m hm;simp[lg]at this;omega
theorem Nj {g:bZ}(h:Lm g):Lm (jb g):=by
 refine⟨by simpa[jb]using h.ts,h.fs,by simpa[jb]using h.ms,λt ht=> ?_,h.f,λm hm=> ?_⟩
 .obtain⟨a,ha,rfl⟩:=List.mem_map.1 ht;exact h.t a ha
 .obtain⟨a,ha,rfl⟩:=List.mem_map.1 hm;have:=h.m a ha;exact⟨this.name,this.ps,this.ls,this.code,this.cls⟩
theorem Ni {g:bZ}(h:u0 g=false):Uc (jb g):=by
 unfold u0 at h;simp only[Bool.or_eq_false_iff,decide_eq_false_iff_not]at h;obtain⟨h1,l,j⟩:=h;rw[List.any_eq_false]at l j;refine⟨by simp[jb];omega,by simp[jb];omega,by simp[jb];omega,λt ht=> ?_,λm hm=> ?_⟩
 .obtain⟨a,ha,rfl⟩:=List.mem_map.1 ht;have:=l a ha;simp[nT]at this;simp[AL];omega
 .obtain⟨a,ha,rfl⟩:=List.mem_map.1 hm;have:=j a ha;simp[lg]at this;simp[tq];omega
theorem Ix (g:bZ):∀m∈(jb g).ms,(m.cn=true->m.code= [])∧(m.ln=true->m.ls= []):=by intro m hm;obtain⟨a,_,rfl⟩:=List.mem_map.1 hm;simp[tq]
theorem NA {g:bZ}(h:∀m∈g.ms,∀x∈m.code,Cd.ez x):∀m∈(jb g).ms,∀x∈m.code,Cd.ez x:=by intro m hm;obtain⟨a,ha,rfl⟩:=List.mem_map.1 hm;exact h a ha
theorem Et (g:bZ):(dc g).1.length<=65536:=by
 unfold dc pP;split
 .simp
 split
 .simp
 split
 .simp
 split
 .simp
 split
 .simp
 .rename_i h;simp only[not_or]at h;simp only;omega
end Im
end Go.Proofs.YtknalmoackcpbaaGreat
namespace Go.Proofs.YtknalmoackcpbaaGreat.Wr
theorem mixed:Tryz.prog.follows .mixedOrders=true:=by kernel_rfl
def Ju (a e:Int):AV:= .agg [zI a,zI e]
def ov (a e:Int) (x:Int×Int×Int):Bool:=decide (a<x.2.2∧x.2.1<e∧a<e∧x.2.1<x.2.2)
def Bu (len:Int) (M:List (Int×Int×Int)) (k a e:Int):Int:=
 if k<0∨M.any (λx=>x.1==k)=true then 2 else if a<56∨a%4≠0 then 3 else if len<e then 1 else if M.any (ov a e)=true then 2 else 0
def mV (M:List (Int×Int×Int)):List (Int×AV):=M.map λx=>(x.1,Ju x.2.1 x.2.2)
theorem Ii (k:Int) (M:List (Int×Int×Int)):(jU k (mV M)).isSome=M.any (λx=>x.1==k):=by
 induction M with
 |nil=>rfl
 |cons x M j=>
  simp only[mV,List.map_cons,jU,List.any_cons]at j|-;by_cases h:k=x.1
  .simp[h]
  .have l:(x.1==k)=false:=by simpa using λe:x.1=k=>h e.symm
   rw[if_neg h,l,Bool.false_or];exact j
theorem Fj (k:Int) (M:List (Int×Int×Int)):∃a e:Int,(jU k (mV M)).getD (Ju 0 0)=Ju a e:=by
 induction M with
 |nil=>exact⟨0,0,rfl⟩
 |cons x M j=>
  simp only[mV,List.map_cons,jU]at j|-;by_cases h:k=x.1
  .rw[if_pos h];exact⟨_,_,rfl⟩
  .rw[if_neg h];exact j
theorem Hf {P:Program}{σ:AS}{t l n b9:Nat}{es:List (AV×AV)}{K:AV->AS->Prop}(hu:P.underlying t=some (.map l n)) (j:σ b9=some (.map es))
 (h:∀id,σ id=none->K (.ptr id 0) (σ.set id (.jd b9 es.length []))):lU P σ t (.mp b9) K:=by
 simp only[lU,hu,j];exact h
theorem Kc {σ:AS}{id b9 j:Nat}{done:List Nat}{es:List (AV×AV)}{K:AV->AS->Prop}(n:σ b9=some (.map es)) (hn:es.length=j)
 (hf:(∀k,k<j->k∈done)->K (.cp [zB false]) σ)
 (l:∀k,k<j->k ∉ done->K (.cp [zB true,(es.getD k (.any,.any)).1,(es.getD k (.any,.any)).2]) (σ.set id (.jd b9 j (k::done)))):Ab id b9 j done σ K:=by
 simp only[Ab,n];exact⟨hn,hf,l⟩
theorem Ko {n k:Nat}{done:List Nat}(j:k<n) (l:k ∉ done):((List.range n).filter (λi=>decide (i ∉ k::done))).length<((List.range n).filter (λi=>decide (i ∉ done))).length:=by
 have e:(List.range n).filter (λi=>decide (i ∉ k::done))=((List.range n).filter (λi=>decide (i ∉ done))).filter (λi=>decide (i≠k)):=by rw[List.filter_filter];congr 1;funext i;simp[Bool.and_comm]
 rw[e];refine Nat.lt_of_le_of_ne (List.length_filter_le _ _) λh=> ?_;have o:=List.length_filter_eq_length_iff.1 h k (by simp[j,l]);simp at o
def Ro (b9 id5 j:Nat) (a e:Int) (M:List (Int×Int×Int)) (B:AS) (m:Nat) (f:Fr) (σ':AS):Prop:=
 ∃done:List Nat,m=((List.range M.length).filter (λi=>decide (i ∉ done))).length∧(∀i x,i∈done->M[i]? =some x->ov a e x=false)∧
  σ'=B.set j (.jd b9 M.length done)∧f=gD [(5,.ptr id5 0),(41,.ptr j 0)]
theorem Ge (b9:Nat) (k a e len:Int) (M:List (Int×Int×Int)) (σ:AS) (ha:0<=a) (h:σ b9=some (.map (dz (mV M)))):
 ad Tryz.prog 102 [zI k,Ju a e,zI len,.mp b9] σ (aq (zI (Bu len M k a e)) σ) No:=by
 have hz:az Tryz.prog 169=Ju 0 0:=by simp[Ju]
 have H:a.tmod 4=a%4:=Int.tmod_eq_emod_of_nonneg ha;have hf:=Ii k M;obtain⟨fa,fe,ar⟩:=Fj k M;refine ad.ob Tryz.func102 ?_;simp only[Ju];refine gO (S:= [1]) aa tI tI ?_;intro id5 K;refine gO (S:= [1]) aa tI tI ?_
 with_reducible apply aA.dB
 refine bQ.first 2 ?_;simp-implicitDefEqProofs;have nm:¬b9=id5:=nq h K;simp only[Ju]at hz ar;refine bQ.sp rfl (iD.Kh (by decide) b9 k (mV M) Tryz.underlying167 Tryz.underlying3 (by simp) (by simp) (by simp) (by simp[nm,h]) ?_);refine bQ.rest ?_;simp-implicitDefEqProofs [kA,hz,ar,hf];intro U q J;have P:=ba q;have al:¬b9=U:=nq h J;have hle:AS.le σ ((σ.set id5 (cL.cells 169 [AV.sc (Value.int IntKind.i64 a),AV.sc (Value.int IntKind.i64 e)])).set U (cL.cells 169 [AV.sc (Value.int IntKind.i64 fa),AV.sc (Value.int IntKind.i64 fe)])):=aw (by simp[J,q]) (aw K (lR _));simp only[Bu];by_cases hk:k<0
 .refine gO aa @hk tI ?_;exact hle
 by_cases hT:(M.any λx=>x.1==k)=true
 .refine gO aa (j2 @hk @hT) tI ?_;exact hle
 rw[Bool.not_eq_true]at hT;by_cases h1:a<56
 .refine gO aa (j4 @hk @hT @h1 q) tI ?_;exact hle
 by_cases h2:a%4=0
 .by_cases h3:len<e
  .refine gO aa (j7 @hk @hT @h1 @h2 @h3 @H q) tI ?_;exact hle
  refine gO aa (j7 @hk @hT @h1 @h2 @h3 @H q) tI ?_;refine Hf (es:=dz (mV M)) Tryz.underlying167 (by simp[nm,al,h]) ?_;generalize hB:(σ.set id5 (cL.cells 169 [AV.sc (Value.int IntKind.i64 a),AV.sc (Value.int IntKind.i64 e)])).set U (cL.cells 169 [AV.sc (Value.int IntKind.i64 fa),AV.sc (Value.int IntKind.i64 fe)])=B at*;have O:B id5=some (.cells 169 [zI a,zI e]):=by rw[<-hB];simp[AS.set,P]
  have L:B b9=some (.map (dz (mV M))):=by rw[<-hB];simp[nm,al,h]
  have hlen:(dz (mV M)).length=M.length:=by simp[dz,mV]
  intro E D;have l:¬id5=E:=nq O D;have v:=ba l;have n:¬b9=E:=nq L D;have u:=ba n;rw[hlen];simp-implicitDefEqProofs [v,l,O,u,n,L];refine gO aa tI tI ?_;refine aA.cz (Ro b9 id5 E a e M B) (k0:=((List.range M.length).filter (λi=>decide (i ∉ ([]:List Nat)))).length) ⟨[],rfl,λi x Y=>(by cases Y),rfl,rfl⟩ (aP.mk (by simp)) (lR _) ?_;rintro m f σ' ⟨done,hm,ap,G,rfl⟩;have F:σ' id5=some (.cells 169 [zI a,zI e]):=by rw[G];simp[l,O]
  have av:σ' b9=some (.map (dz (mV M))):=by rw[G];simp[n,L]
  have a2:σ' E=some (.jd b9 M.length done):=by rw[G];simp
  refine gO aa @a2 tI ?_;refine Kc av hlen (λhd=> ?_) (λi Y a1=> ?_)
  .simp-implicitDefEqProofs [v,l,O,u,n,L];refine gO aa tI tI ?_;have a0:M.any (ov a e)=false:=by rw[List.any_eq_false];intro x hx;obtain⟨i,Y,rfl⟩:=List.getElem_of_mem hx;rw[ap i _ (hd i Y) (List.getElem?_eq_getElem Y)];simp
   rw[a0];exact⟨Wk.refl _,by rw[G];exact aw D hle⟩
  .obtain⟨⟨k',a',e'⟩,hx⟩:∃x,M[i]? =some x:=⟨_,List.getElem?_eq_getElem Y⟩;have hg:(dz (mV M))[i]? =some (zI k',.agg [zI a',zI e']):=by simp[dz,mV,hx,Ju]
   have I:=Ko Y a1;rw[<-hm]at I;rw[show(dz (mV M)).getD i (.any,.any)=(zI k',.agg [zI a',zI e']) by rw[List.getD_eq_getElem?_getD,hg];rfl];simp-implicitDefEqProofs [v,l,O,u,n,L];refine gO aa (j4 @av @hg @hlen n) tI ?_;intro Q a4 T;have o:¬id5=Q:=nq F T;have A:ov a e (k',a',e')=false-> ∀i' x,i'∈i::done->M[i']? =some x->ov a e x=false:=by
    intro h i' x X V;rcases List.mem_cons.1 X with rfl|X
    .rw[hx]at V;cases V;exact h
    .exact ap i' x X V
   have w:AS.le (B.set E (.jd b9 M.length (i::done))) ((σ'.set E (.jd b9 M.length (i::done))).set Q (.cells 169 [zI a',zI e'])):=by
    refine aw (by simp[AS.set,a4,T]) ?_;rw[G];intro j y hj;by_cases ej:j=E
    .simpa[AS.set,ej]using hj
    .simpa[AS.set,ej]using hj
   by_cases Z:a<e'
   .by_cases c2:a'<e
    .by_cases c3:a<e
     .by_cases c4:a'<e'
      .refine gO aa (j7 @Z @c2 @c3 @c4 l o @F) tI ?_;have:M.any (ov a e)=true:=List.any_eq_true.2 ⟨_,List.mem_of_getElem? hx,by simp[ov,Z,c2,c3,c4]⟩;rw[this];refine⟨Wk.refl _,?_⟩;exact AS.le_trans (aw D hle) w
      .refine gO aa (j7 @Z @c2 @c3 @c4 l o @F) tI ?_;exact⟨_,_,_,I,aP.mk (by simp),w,i::done,rfl,A (by simp[ov,c4]),rfl,rfl⟩
     .refine gO aa (j6 @Z @c2 @c3 l o @F) tI ?_;exact⟨_,_,_,I,aP.mk (by simp),w,i::done,rfl,A (by simp[ov,c3]),rfl,rfl⟩
    .refine gO aa (j5 @Z @c2 l o @F) tI ?_;exact⟨_,_,_,I,aP.mk (by simp),w,i::done,rfl,A (by simp[ov,c2]),rfl,rfl⟩
   .refine gO aa (j4 @Z l o @F) tI ?_;exact⟨_,_,_,I,aP.mk (by simp),w,i::done,rfl,A (by simp[ov,Z]),rfl,rfl⟩
 .refine gO aa (j6 @hk @hT @h1 @h2 @H q) tI ?_;exact hle
open Go.AW.Ev in
def OE:List (EV×EV)->Option (List (Int×Int×Int))
 |[]=>some []
 |(.int .i64 k,.agg [.int .i64 a,.int .i64 e])::r=>(OE r).map ((k,a,e):: ·)
 | _ =>none
open Go.AW.Ev in
def Gf (args:List EV) (H:Hp):lW:=match args with
 |[.int .i64 k,.agg [.int .i64 (.ofNat a),.int .i64 e],.int .i64 len,.mp i]=>(match H.get i with
  |.map es=>(match OE es with
   |some M=> .ok (.int .i64 (Bu len M k (.ofNat a) e)) H
   |none=> .fail 500)
  | _ => .fail 501)
 | _ => .fail 502
open Go.AW.Ev in
def zT:Qb:=λf=>bif Nat.beq f 102 then some Gf else none
open Go.AW.Ev in
theorem Gs {ρ:br} :∀ {es:List (EV×EV)}{n:List (AV×AV)}{M:List (Int×Int×Int)},PL ρ es n->OE es=some M->n=dz (mV M)
 |[],[],M,_,h=>by simp only[OE,Option.some.injEq]at h;subst h;rfl
 |[],_ :: _,_,j,_ =>j.elim
 | _ :: _,[],_,j,_ =>j.elim
 |(k,v)::es,(A,y)::n,M,j,h=>by
  obtain⟨h1,w,u⟩:=j;unfold OE at h;split at h
  .cases ‹_ :: _ = []›
  .rename_i k a e r heq;cases heq;rw[Option.map_eq_some_iff]at h;obtain⟨D,g1,rfl⟩:=h;cases h1;obtain⟨l,rfl,hl⟩:=w.Ec;cases hl with
   |cons q t1=>cases t1 with
    |cons o t2=>cases t2;cases q;cases o;rw[Gs u g1];rfl
  .cases h
open Go.AW.Ev in
theorem MX:I2 Tryz.prog zT:=by
 intro f o j args H v S h;unfold zT at j;cases hf:Nat.beq f 102 with
 |false=>rw[hf]at j;cases j
 |true=>
  rw[hf]at j;simp only[cond_true,Option.some.injEq]at j;subst j;obtain rfl:=Nat.eq_of_beq_eq_true hf;unfold Gf at h;split at h
  .rename_i k a e len i;split at h
   .rename_i es G;split at h
    .rename_i M I;simp only[lW.ok.injEq]at h;obtain⟨rfl,rfl⟩:=h;refine⟨Nat.le_refl _,λρ σ0 σ J q E=> ?_⟩;cases E with
     |cons P t1=>cases t1 with
      |cons O t2=>cases t2 with
       |cons L t3=>cases t3 with
        |cons K t4=>
         cases t4;cases P;cases L;obtain⟨l,rfl,hl⟩:=O.Ec;cases hl with
         |cons A w=>cases w with
          |cons y u=>
           cases u;cases A;cases y;cases K with
           |mp F=>obtain⟨Q,n,D,_⟩:=q.rb.map F G;rw[Gs D I]at n;refine(Ge _ k (Int.ofNat a) e len M σ (Int.natCast_nonneg a) n).mono ?_ (λ_ _ h=>h);rintro r σ' ⟨rfl,rfl⟩;exact⟨ρ,.refl ρ,.int _ _,q⟩
    .cases h
   .cases h
  .cases h
end Go.Proofs.YtknalmoackcpbaaGreat.Wr
namespace Go.Proofs.YtknalmoackcpbaaGreat
open Go.Proofs.Tryz
def TT:Ev.lW->Bool
 |.ok (.bool true) _ =>true
 | _ =>false
theorem Ek:TT (Ev.BT prog Wr.zT 1000 7 [] Ev.Ia)=true:=by kernel_rfl
theorem Gj (σ:AS):ad prog 7 [] σ (λr σ'=>r=zB true∧AS.le σ σ') No:=by
 have h:=Ek;unfold TT at h;split at h
 .rename_i H j;exact Ev.closed Wr.mixed Wr.MX j σ
 .cases h
namespace Im
open Go.Proofs.Tryz
theorem Jd (σ:AS):ad prog 7 [] σ (aq (zB true) σ) No:=
 have h:=Gj σ
 ⟨h.body,λG w vals l j=>(h.run G w vals l j).mono λe w' he=>by
  unfold jC at he|-;split at he
  .obtain⟨G',σ',r,a,b,c,rfl,hle⟩:=he;exact⟨G',σ,_,a,b.weaken hle,c,rfl,rfl⟩
  .obtain⟨x,y,G',σ',r,a,b,c,d⟩:=he;exact d.elim
  .exact he.elim⟩
theorem GW (l m:zY) (n1 n2:Bool) (hl:l.length<=140737488355328) (σ:AS):
 ad prog 14 [.ah 5 (l.map u8) .aJ n1,.ah 5 (m.map u8) .aJ n2] σ (aq (.sc (.bool (decide (l=m)))) σ) No:=by
 have h:=λσ=>_root_.Go.Proofs.YtknalmoackcpbaaGreat.tD l m .aJ .aJ n1 n2 hl σ;refine ad.ob func14 ?_;exact gE aa tI @h
theorem wB (g:bZ) (v:Lm g) (w:∀m∈g.ms,∀x∈m.code,Cd.ez x) (hn:∀m∈g.ms,(m.cn=true->m.code= [])∧(m.ln=true->m.ls= [])):
 ad prog 4 [lp g] M8 zg No:=by
 have hw:=λσ=>Jd σ;have hl:=λσ=>Ki g v.ts v.ms σ;cases u:u0 g with
 |true=>rw[u]at hl;simp only[aN]at hl|-;refine ad.ob func4 ?_;refine gO aa tI tI ?_;intro id q;exact gE aa tI (j2 @hw @hl)
 |false=>rw[u]at hl;have A:=λσ=>Fw g (OK u) σ;have j:=λσ=>JC (jb g) (Nj v) (λh=>DK (tR.1 h) (NA w) (Ix g)) (λ_ =>D0 _) σ;have n:=λσ=>G4 g v (λh=>DK (tR.1 h) w hn) (λh=>Nk (tR.1 h) w) w (λ_ =>D0 _) σ;have y:=λσ=>tD (jb g) g (PK g) (Ni u) σ;have o:=λn1 n2 σ=>GW (dc g).1 (dc g).1 n1 n2 (by have:=Et g;omega) σ;rw[JD]at j;unfold wm at j n;generalize decide ((dc g).2≠0)=nl at j n;generalize (dc g).2=F at j n;generalize (dc g).1=b at j n o;generalize jb g=g2 at A j y;simp only[aN]at hl A j n y|-;refine ad.ob func4 ?_;refine gO aa tI tI ?_;intro id q;refine gO aa tI (j3 @hw @hl @A) ?_;intro E l D;exact gE aa l (j4 @j @n @o @y)
end Im
namespace Fm
open Go.ChangeShapes Go.WideShapes Go.ChangeAt
abbrev cX:=Rows.imageSavesRow
abbrev sX:ChangeSpec:=(OpenSpec.ofChange Rows.imageSavesSpec).bare
theorem bi {a b:Bool}(h:a=true) (j:b=true):(a&&b)=true:=by rw[h,j];rfl
theorem UW:(cX.wf (OpenSpec.ofChange sX))=true:=by kernel_rfl
theorem UU:(laidOutB Tryz.prog)=true:=by kernel_rfl
theorem UT:(mapsRowed Tryz.prog)=true:=by kernel_rfl
theorem US:(Tryz.f4.params.all (Tryz.prog.readableRec ·))=true:=by kernel_rfl
theorem UR:(namedTie Tryz.prog cX.named sX.vars)=true:=by kernel_rfl
theorem UQ:((cX.stops== []))=true:=by kernel_rfl
theorem UP:((Tryz.prog.stops== []))=true:=by kernel_rfl
theorem UO:((cX.knobs== []))=true:=by kernel_rfl
theorem UN:((Tryz.prog.stopKnobs== []))=true:=by kernel_rfl
theorem UM:((cX.inPlace==Tryz.prog.inPlace 4))=true:=by kernel_rfl
theorem Sf:((cX.unfollowed==Tryz.prog.unfollowed 4))=true:=by kernel_rfl
theorem Se:((cX.recurses==Tryz.prog.recurses 4))=true:=by kernel_rfl
theorem Sd:((cX.named==Tryz.prog.varsNamed 4))=true:=by kernel_rfl
theorem Sc:((cX.maps==(Tryz.f4.params.toList++sX.plain.varTypes Tryz.prog).any (Tryz.prog.mapsRec ·)))=true:=by kernel_rfl
theorem Sb:((cX.ifaces==(Tryz.f4.params.toList++sX.plain.varTypes Tryz.prog).any (Tryz.prog.ifacesRec ·)))=true:=by kernel_rfl
theorem Sa:((cX.mapsOut==Tryz.prog.mapsAmong Tryz.f4.resultTypes.toList))=true:=by kernel_rfl
theorem R9:((cX.loops==(Tryz.f4.params.toList++sX.plain.varTypes Tryz.prog).any (Tryz.prog.loopsFrom ·)))=true:=by kernel_rfl
theorem R8:((cX.wideKeys==(Tryz.f4.params.toList++sX.plain.varTypes Tryz.prog++Tryz.f4.resultTypes.toList).any (Tryz.prog.wideKeysFrom ·)))=true:=by kernel_rfl
theorem R7:(sX.vars.all (Tryz.prog.varReadable ·))=true:=by kernel_rfl
theorem R5:(Tryz.f4.resultTypes.all (λt=>Tryz.prog.readableRec t&&decide (t<Tryz.prog.types.size)))=true:=by kernel_rfl
theorem R4:((cX.ifacesOut==Tryz.f4.resultTypes.toList.any (Tryz.prog.ifacesRec ·)))=true:=by kernel_rfl
theorem R3:((cX.loopsOut==Tryz.f4.resultTypes.toList.any (Tryz.prog.loopsFrom ·)))=true:=by kernel_rfl
theorem R2:((cX.plainKeys==Tryz.prog.plainKeys))=true:=by kernel_rfl
theorem R1:(cX.shortTexts.isNone)=true:=by kernel_rfl
theorem R0:(Tryz.prog.stopsHeard)=true:=by kernel_rfl
theorem RZ:(Tryz.prog.mayEnter)=true:=by kernel_rfl
theorem RY:((cX.lifted==Tryz.prog.liftsFinal))=true:=by kernel_rfl
theorem RX:((Tryz.prog.make==some cX.make))=true:=by kernel_rfl
theorem RW:((cX.kinds==(if cX.domain.isEmpty then []else Tryz.f4.params.toList.map λt=>match Tryz.prog.underlying t with|some (.int k)=>some k| _ =>none)))=true:=by kernel_rfl
theorem RV:((cX.pinned==cX.pinnedBy))=true:=by kernel_rfl
theorem RU:((cX.veiled==(Tryz.f4.params.toList++sX.plain.varTypes Tryz.prog++Tryz.f4.resultTypes.toList).any (Tryz.prog.veiledRec ·)))=true:=by kernel_rfl
theorem RT:(cX.veiledFits Tryz.prog Tryz.f4.params.toList (Tryz.f4.params.toList++sX.plain.varTypes Tryz.prog++Tryz.f4.resultTypes.toList))=true:=by kernel_rfl
theorem Nd:joinedFacts Tryz.prog 4 Tryz.f4 sX cX=true:=(bi (bi (bi (bi (bi (bi (bi (bi (bi (bi (bi (bi (bi (bi (bi (bi (bi (bi (bi (bi (bi (bi (bi (bi (bi (bi (bi (bi (bi (bi (bi UW UU) UT) US) UR) UQ) UP) UO) UN) UM) Sf) Se) Sd) Sc) Sb) Sa) R9) R8) R7) R5) R4) R3) R2) R1) R0) RZ) RY) RX) RW) RV) RU) RT)
theorem named:Tryz.prog.funcNamed cX.func=some 4:=by kernel_rfl
end Fm
end Go.Proofs.YtknalmoackcpbaaGreat
