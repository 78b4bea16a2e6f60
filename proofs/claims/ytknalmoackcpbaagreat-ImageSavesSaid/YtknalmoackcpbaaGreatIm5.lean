/- Chapter 10, the reference: formedType, formedCode. -/
import Derived.Test.YtknalmoackcpbaaGreatRows5
set_option maxRecDepth 100000
set_option maxHeartbeats 3200000
set_option linter.all false
open Go Go.AW
namespace Go.Proofs.YtknalmoackcpbaaGreat
namespace Im
open Tryz
open Rg (Cl jg bw vG dH dp je iU jx mg vI)
theorem mC {α:Type}{p:α->Bool}{l:List α}{i:Nat}(h:i<l.length) (h1:∀x∈l.take i,p x=true) (n:p l[i]=true):∀x∈l.take (i+1),p x=true:=by
 intro x j;rw[List.take_succ_eq_append_getElem h]at j;rcases List.mem_append.1 j with j|j
 .exact h1 x j
 .simp at j;rw[j];exact n
theorem nr {α:Type}{p:α->Bool}{l:List α}{i:Nat}(h:i<l.length) (j:p l[i]=false):l.all p=false:=by
 cases e:l.all p with
 |false=>rfl
 |true=>rw[List.all_eq_true]at e;rw[e _ (List.getElem_mem h)]at j;cases j
theorem mD {α:Type}{p:α->Bool}{l:List α}{i:Nat}(h:¬i<l.length) (h1:∀x∈l.take i,p x=true):l.all p=true:=by rw[List.all_eq_true];rwa [List.take_of_length_le (by omega)]at h1
theorem J7 {α:Type}(p:α->Bool) (l:List α):(!l.any p)=l.all λx=> !p x:=by
 induction l with
 |nil=>rfl
 |cons a r j=>simp[<-j]
theorem GZ (t:TD) (hl:t.bO.length<=140737488355328) (hn:t.name.length<=140737488355328) (n:Int) (σ:AS):
 ad prog 21 [jD t,.sc (.int .i64 n)] σ (aq (.sc (.bool (F6 t n))) σ) No:=by
 have hf:=λσ=>qu t.name hn σ;unfold F6;rw[J7];generalize bY t.name=H at hf|-;obtain⟨nm,fl,ex,fc,fn⟩:=t;simp only[cK]at hf hl|-;generalize l:decide (0<=fl∧fl<=31∧ -1<=ex∧ex<n∧fc.length<=4)=v;refine ad.ob func21 ?_;refine gO aa tI tI ?_;intro id E;cases H
 .refine gO aa tI @hf ?_;all_goals (repeat' (with_reducible apply j2))
  all_goals exact gL tI
 .by_cases h1:fl<0
  .have o:v=false:=by rw[<-l];simp;omega
   subst o;refine gO aa @h1 @hf ?_;all_goals (repeat' (with_reducible apply j2))
   all_goals exact gL tI
  .by_cases y:31<fl
   .have o:v=false:=by rw[<-l];simp;omega
    subst o;refine gO aa (j2 @h1 @y) @hf ?_;all_goals (repeat' (with_reducible apply j2))
    all_goals exact gL tI
   .by_cases A:ex< -1
    .have o:v=false:=by rw[<-l];simp;omega
     subst o;refine gO aa (j3 @h1 @y @A) @hf ?_;all_goals (repeat' (with_reducible apply j2))
     all_goals exact gL tI
    .by_cases D:n<=ex
     .have o:v=false:=by rw[<-l];simp;omega
      subst o;refine gO aa (j4 @h1 @y @A @D) @hf ?_;all_goals (repeat' (with_reducible apply j2))
      all_goals exact gL tI
     .by_cases J:fc.length<=4
      .have u:(4<(fc.length:Int))=False:=by simp;omega
       have o:v=true:=by rw[<-l];simp;omega
       subst o;refine gO aa (j5 @h1 @y @A @D @u) @hf ?_;refine aA.aY (α:=(Nat)) (0) (λi=>fc.length-i) (λi=>i<=fc.length∧ ∀x∈fc.take i,(!ly x n)=true) [(1,?_),(2,?_)] (λi=> [(5,.sc (.int .i64 i))]) (λi=>σ.set id (.cells 46 [.sc (.string ⟨nm.toArray⟩),.sc (.int .i64 fl),.sc (.int .i64 ex),.ah 3 (fc.map iV) .aJ fn])) ?_ ?_ ?_ ?_;rotate_left 2
       .exact gF tI
       .exact gT
       ·(try dsimp only)<;>first|exact trivial|exact⟨by omega,rfl⟩|omega|(simp;done)|exact⟨by omega,by simp⟩|exact⟨by omega,by simp,rfl⟩
       intro i w;try dsimp only at w|-
       obtain⟨I,F⟩:=w;simp only[fm];by_cases j:i<fc.length
       .have q:IntKind.i64.wrap ((i:Int)+1)=((i+1:Nat):Int):=bh (by omega);by_cases g1:fc[i]<0
        .rw[nr (p:=λx=> !ly x n) j (by simp[ly,g1])];refine gO aa (j4 j @oA @g1 @ae) tI ?_;all_goals (repeat' (with_reducible apply j2))
         all_goals exact gL tI
        .by_cases g2:n<=fc[i]
         .rw[nr (p:=λx=> !ly x n) j (by simp[ly,g2])];refine gO aa (j5 j @oA @g1 @g2 @ae) tI ?_;all_goals (repeat' (with_reducible apply j2))
          all_goals exact gL tI
         .repeat (first
           |(with_reducible first|apply aA.seq|apply aA.block|refine j2 (by first|omega|assumption|decide) ?_)
           |((first|(with_reducible first|apply aA.fork|apply aA.region|show dd _ _ _ |show bT _ _ _ _ _ _ _ _ _));simp-implicitDefEqProofs [j,oA,g1,g2,ae,au,q])
           |((with_reducible first|apply aA.ret|apply aA.skip|apply aA.exit);try simp-implicitDefEqProofs [j,oA,g1,g2,ae,au,q]))
          refine aH.mk (i+1) (by(try dsimp only);omega) (gF tI) gT ?_;try dsimp only
          exact⟨j,λx G=>by simpa using mC (p:=λx=> !ly x n) j F (by simp[ly,g1,g2]) x G⟩
       .rw[mD (p:=λx=> !ly x n) j F];refine gO aa (j2 j @ae) tI ?_;all_goals (repeat' (with_reducible apply j2))
        all_goals exact gL tI
      .have u:(4<(fc.length:Int))=True:=by simp;omega
       have o:v=false:=by rw[<-l];simp;omega
       subst o;refine gO aa (j5 @h1 @y @A @D @u) @hf ?_;all_goals (repeat' (with_reducible apply j2))
       all_goals exact gL tI
def sD (x:dM) (nt nf nm n:Int):Bool:=
 decide (jT x=0)&&(if (gZ x.op).2.1=5 then decide (x.arg<n)else if (gZ x.op).2.1=6 then decide (x.arg<nm)else if (gZ x.op).2.1=7 then decide (x.arg<nf)else if (gZ x.op).2.1=8 then j9 x.t nt else true)
theorem Ku (x:dM) (nt nf nm n:Int):cS x nt nf nm n=sD x nt nf nm n:=by
 unfold cS sD;by_cases h0:jT x=0
 .have w:¬(x.op<1∨75<x.op):=by intro h;simp[jT,h]at h0
  have hf:jf x (gZ x.op).2.1=true:=by
   cases e:jf x (gZ x.op).2.1 with
   |true=>rfl
   |false=>rw[show jT x=if x.op<1∨75<x.op then 3 else if jf x (gZ x.op).2.1 then 0 else 17 from rfl,if_neg w,e]at h0;simp at h0
  have u:=uU ⟨(x.op-1).toNat,by omega⟩;have e:(((x.op-1).toNat:Nat):Int)+1=x.op:=by omega
  simp only[e]at u;generalize (gZ x.op).2.1=o at u hf|-;congr 1;by_cases q:o=5
  .simp[q]
  by_cases l:o=6
  .simp[l]
  by_cases j:o=7
  .simp[j]
  by_cases v:o=8
  .simp[v]
  rw[if_neg q,if_neg l,if_neg j,if_neg q,if_neg l,if_neg j,if_neg v];have hn:nL x.t=true:=by
   have:o=0∨o=1∨o=2∨o=3∨o=4:=by omega
   rcases this with rfl|rfl|rfl|rfl|rfl<;>simp[jf]at hf<;>first|exact hf.1|exact hf
  have y:x.t.kind=0:=by simp[nL]at hn;exact hn.1
  simp[j9,y]
 .simp[h0]
def uJ (m:Mt) (nt nf nm:Int):Bool:=
 decide (m.code.length<=160)&&(m.code.all (λx=>sD x nt nf nm m.code.length)&&(m.cls.all (λc=>DX c nt)&&decide ((dH (iU m.code.length) jx m.cls).2=0)))
def Qc (x:dM):Prop:= -9223372036854775808<=x.arg∧x.arg<9223372036854775808
theorem Hd (m:Mt) (g:bZ) (hL:Mk m) (hI:∀x∈m.code,Qc x) (σ:AS):
 ad prog 57 [fM m,lp g] σ (aq (.sc (.bool (uJ m g.ts.length g.fs.length g.ms.length))) σ) No:=by
 have hF:=λ(x:dM) (h:Qc x) σ=>zJ x h.1 h.2 σ;have hO:=λ(op:Int) σ=>rF op σ;have hW:=λ(t:Ty) σ=>De t g.ts.length σ;have hM:=λ(t:Ty) σ=>tG t 1 g.ts.length σ;have hR:=λσ=>mg m.code.length m.cls .aJ m.xn hL.cls σ;have b6:=hL.code;have b5:=hL.cls;unfold uJ;generalize decide ((dH (iU m.code.length) jx m.cls).2=0)=rb at hR|-;generalize hp:(λx=>sD x g.ts.length g.fs.length g.ms.length m.code.length)=p;generalize hq:(λc=>DX c g.ts.length)=q;simp only[aT,aN,eu,cB,fO,vG]at hF hO hW hM hR|-
 --CODE
 generalize ak:decide (m.code.length<=160)=d16;generalize hA:m.code.all p=A;generalize hB:m.cls.all q=B;refine ad.ob func57 ?_;refine gO aa tI tI ?_;intro id a5;refine gO aa tI tI ?_;intro ai v a0;by_cases cb:m.code.length<=160
 .have X:(160<(m.code.length:Int))=False:=by simp;omega
  have hd:d16=true:=by rw[<-ak];simp;omega
  subst hd;refine gO aa (j2 v @X) tI ?_;refine aA.aY (α:=(Nat)) (0) (λi=>m.code.length-i) (λi=>i<=m.code.length∧ ∀x∈m.code.take i,p x=true) [(2,?_),(3,?_)] (λi=> [(5,zI i)]) (λi=>(σ.set id (.cells 53 (fM m).cells)).set ai (.cells 26 (lp g).cells)) ?_ ?_ ?_ ?_;rotate_left 2
  .exact gF tI
  .exact gT
  ·(try dsimp only)<;>first|exact trivial|exact⟨by omega,rfl⟩|omega|(simp;done)|exact⟨by omega,by simp⟩|exact⟨by omega,by simp,rfl⟩
  intro i T;try dsimp only at T|-
  obtain⟨hi,hX⟩:=T;simp only[fm];by_cases J:i<m.code.length
  .have F:zW ((i:Int)+1)=((i+1:Nat):Int):=bh (by omega);have am:=hF m.code[i] (hI _ (List.getElem_mem J));generalize hc:m.code[i]=x at*;have G:p x=sD x g.ts.length g.fs.length g.ms.length m.code.length:=by rw[<-hp]
   have H:p x=false->A=false:=λh=>by rw[<-hA];exact nr J (by rw[hc];exact h)
   have D:p x=true-> ∀y∈m.code.take (i+1),p y=true:=λh=>mC J hX (by rw[hc];exact h);have U:=hO x.op;have Z:=hW x.t;unfold sD at G;generalize gZ x.op=tt at U G;generalize uV x.op=oe at U;generalize j9 x.t g.ts.length=ow at Z G;obtain⟨t1,t2,t3⟩:=tt;simp only at G U;refine gO aa (j7 J @hc @eu v @ae @aT @aN) tI ?_;intro ax l u E;have L:=ba l;have Q:=ba u;by_cases h0:jT x=0
   .refine gO aa @h0 (j2 @am @U) ?_;intro b2 n o w K;by_cases P:t2=5
    .by_cases g5:(m.code.length:Int)<=x.arg
     .rw[H (by rw[G];simp[h0,P,g5])];refine gO aa (j7 v u w n @P @g5 @F) tI ?_;all_goals exact gJ tI
     .have ce:=Int.not_le.1 g5;refine gO aa (j7 v u w n @P @g5 @F) tI ?_;refine aH.mk (i+1) (by(try dsimp only);omega) (gF tI) (by(try dsimp only);exact aw (by simp[w,o,n,K]) (aw (by simp[u,l,E]) (lR _))) ?_;try dsimp only
      exact⟨J,D (by rw[G];simp[h0,P,g5];omega)⟩
    .skip
     by_cases S:t2=6
     .by_cases g6:(g.ms.length:Int)<=x.arg
      .rw[H (by rw[G];simp[h0,P,S,g6])];refine gO aa (j6 l o n @S @g6 @F) tI ?_;all_goals exact gJ tI
      .have cd:=Int.not_le.1 g6;refine gO aa (j6 l o n @S @g6 @F) tI ?_;refine aH.mk (i+1) (by(try dsimp only);omega) (gF tI) (by(try dsimp only);exact aw (by simp[w,o,n,K]) (aw (by simp[u,l,E]) (lR _))) ?_;try dsimp only
       exact⟨J,D (by rw[G];simp[h0,P,S,g6];omega)⟩
     .skip
      by_cases Y:t2=7
      .by_cases g7:(g.fs.length:Int)<=x.arg
       .rw[H (by rw[G];simp[h0,P,S,Y,g7])];refine gO aa (j6 l o n @Y @g7 @F) tI ?_;all_goals exact gJ tI
       .have cc:=Int.not_le.1 g7;refine gO aa (j6 l o n @Y @g7 @F) tI ?_;refine aH.mk (i+1) (by(try dsimp only);omega) (gF tI) (by(try dsimp only);exact aw (by simp[w,o,n,K]) (aw (by simp[u,l,E]) (lR _))) ?_;try dsimp only
        exact⟨J,D (by rw[G];simp[h0,P,S,Y,g7];omega)⟩
      .skip
       by_cases h8:t2=8
       .cases ow
        .rw[H (by rw[G];simp[h0,P,S,Y,h8])];refine gO aa (j8 l o n @P @S @Y @h8 @F) @Z ?_;all_goals exact gJ tI
        .refine gO aa (j8 l o n @P @S @Y @h8 @F) @Z ?_;refine aH.mk (i+1) (by(try dsimp only);omega) (gF tI) (by(try dsimp only);exact aw (by simp[w,o,n,K]) (aw (by simp[u,l,E]) (lR _))) ?_;try dsimp only
         exact⟨J,D (by rw[G];simp[h0,P,S,Y,h8])⟩
       .refine gO aa (j8 l o n @P @S @Y @h8 @F) @Z ?_;refine aH.mk (i+1) (by(try dsimp only);omega) (gF tI) (by(try dsimp only);exact aw (by simp[w,o,n,K]) (aw (by simp[u,l,E]) (lR _))) ?_;try dsimp only
        exact⟨J,D (by rw[G];simp[h0,P,S,Y,h8])⟩
   .rw[H (by rw[G];simp[h0])];refine gO aa @h0 (j2 @am @U) ?_;all_goals exact gJ tI
  .have a4:A=true:=by rw[<-hA];exact mD J hX
   rw[a4];refine gO aa (j5 J v @ae @aT @aN) tI ?_;refine aA.aY (α:=(Nat)) (0) (λj=>m.cls.length-j) (λj=>j<=m.cls.length∧ ∀x∈m.cls.take j,q x=true) [(2,?_),(3,?_)] (λj=> [(9,zI j)]) (λj=>(σ.set id (.cells 53 (fM m).cells)).set ai (.cells 26 (lp g).cells)) ?_ ?_ ?_ ?_;rotate_left 2
   .exact gF tI
   .exact gT
   ·(try dsimp only)<;>first|exact trivial|exact⟨by omega,rfl⟩|omega|(simp;done)|exact⟨by omega,by simp⟩|exact⟨by omega,by simp,rfl⟩
   intro j T;try dsimp only at T|-
   obtain⟨hj,hY⟩:=T;simp only[fm];by_cases I:j<m.cls.length
   .have O:zW ((j:Int)+1)=((j+1:Nat):Int):=bh (by omega);generalize hc:m.cls[j]=c at*;have M:q c=DX c g.ts.length:=by rw[<-hq]
    have H:q c=false->B=false:=λh=>by rw[<-hB];exact nr I (by rw[hc];exact h)
    have D:q c=true-> ∀y∈m.cls.take (j+1),q y=true:=λh=>mC I hY (by rw[hc];exact h);have V:=hM ⟨c.a,c.b,c.c,c.r⟩;have al:DX c g.ts.length=if c.k=1 then(dU ⟨c.a,c.b,c.c,c.r⟩ 1&&j9 ⟨c.a,c.b,c.c,c.r⟩ g.ts.length)else nL ⟨c.a,c.b,c.c,c.r⟩:=rfl;rw[al]at M;clear al;generalize (dU ⟨c.a,c.b,c.c,c.r⟩ 1&&j9 ⟨c.a,c.b,c.c,c.r⟩ g.ts.length)=wb at V M;have hn:gP prog 8 49 (.agg [zI c.a,zI c.b,zI c.c,.sc (.bool c.r)]) (.agg [zI 0,zI 0,zI 0,zB false])=some (nL ⟨c.a,c.b,c.c,c.r⟩):=by simp[nL]
    generalize nL ⟨c.a,c.b,c.c,c.r⟩=nb at hn M;refine gO aa (j7 @I @hc @bw v @ae @aT @aN) tI ?_;intro ax l u E;have L:=ba l;have Q:=ba u;by_cases hk:c.k=1
    .cases wb
     .rw[H (by rw[M];simp[hk])];refine gO aa (j4 l @hn @hk @O) @V ?_;all_goals exact gJ tI
     .refine gO aa (j4 l @hn @hk @O) @V ?_;refine aH.mk (j+1) (by(try dsimp only);omega) (gF tI) (by(try dsimp only);exact aw (by simp[u,l,E]) (lR _)) ?_;try dsimp only
      exact⟨I,D (by rw[M];simp[hk])⟩
    .cases nb
     .rw[H (by rw[M];simp[hk])];refine gO aa (j4 l @hn @hk @O) @V ?_;all_goals exact gJ tI
     .refine gO aa (j4 l @hn @hk @O) @V ?_;refine aH.mk (j+1) (by(try dsimp only);omega) (gF tI) (by(try dsimp only);exact aw (by simp[u,l,E]) (lR _)) ?_;try dsimp only
      exact⟨I,D (by rw[M];simp[hk])⟩
   .have a3:B=true:=by rw[<-hB];exact mD I hY
    rw[a3];refine gO aa (j5 @I v @ae @aT @aN) @hR ?_;all_goals exact gJ tI
 .have X:(160<(m.code.length:Int))=True:=by simp;omega
  have hd:d16=false:=by rw[<-ak];simp;omega
  subst hd;refine gO aa (j2 v @X) tI ?_;all_goals exact gJ tI
abbrev lL:dW:=(.S 0 (.R 1 (.A 2 (.S 3 (.S 4 (.S 5 (.R 6 (.S 7 (.S 8 (.S 9 (.S 10 (.S 12 (.R 11 (.S 13 (.S 14 (.S 15 (.S 16 (.S 17 (.S 18 (.S 19 (.S 21 (.S 23 (.S 24 (.R 20 (.R 22 (.S 25 (.S 26 (.R 27 (.S 28 (.S 29 (.S 30 (.S 31 (.S 32 (.S 34 (.R 33 (.A 35 (.S 36 (.S 37 .D)) .Z))))))))))))))))))))))))))))))))) .Z)))
abbrev lK:dW:=(.S 0 (.R 1 (.S 2 (.S 3 (.S 4 (.S 6 (.R 5 (.S 7 (.S 8 (.S 9 (.S 10 (.S 11 (.S 12 (.S 13 (.S 15 (.S 17 (.S 18 (.R 14 (.R 16 (.S 19 (.S 20 (.R 21 (.S 22 (.S 23 (.S 24 (.S 25 (.R 26 (.R 27 (.A 28 (.S 29 (.S 30 .D)) .Z)))))))))))))))))))))))))))))
theorem bB (S:List Nat):cu prog [(13,lL),(19,lK)] S:=mixed
open Rg (Cl jg bw vG dH dp je iU jx vI)
open Sg (aE)
def JO (m:Mt) (nt nf nm:Int):Bool:=
 bY m.name&&(decide (0<=m.flags∧m.flags<=31∧0<=m.max∧m.max<=12∧m.ps.length<=6∧m.ls.length<=12)&&(y4 m.ret nt&&(m.ps.all (λt=>kT t nt)&&(m.ls.all (λt=>kT t nt)&&uJ m nt nf nm))))
theorem JN (m:Mt) (nt nf nm:Int):JO m nt nf nm=F8 m nt nf nm:=by
 unfold JO F8 uJ;rw[vI];have e:(λx=>cS x nt nf nm m.code.length)=λx=>sD x nt nf nm m.code.length:=by funext x;exact Ku x nt nf nm m.code.length
 rw[e];generalize bY m.name=a;generalize y4 m.ret nt=b;generalize (m.ps.all λt=>kT t nt)=c;generalize (m.ls.all λt=>kT t nt)=d;generalize (m.code.all λx=>sD x nt nf nm m.code.length)=e;generalize (m.cls.all λc=>DX c nt)=f;generalize decide ((dH (dp m.code.length) je m.cls).2=0)=h;rw[Bool.eq_iff_iff];simp only[Bool.and_eq_true,decide_eq_true_eq];constructor
 .rintro⟨h1,⟨F,E,D,A,y,w⟩,v,u,q,o,n,l,j⟩;exact⟨h1,⟨F,E,D,A,y,w,o⟩,v,u,q,n,l,j⟩
 .rintro⟨h1,⟨F,E,D,A,y,w,o⟩,v,u,q,n,l,j⟩;exact⟨h1,⟨F,E,D,A,y,w⟩,v,u,q,o,n,l,j⟩
theorem BV (m:Mt) (g:bZ) (Z:Mk m) (hI:∀x∈m.code,Qc x) (σ:AS):
 ad prog 24 [fM m,lp g] σ (aq (.sc (.bool (JO m g.ts.length g.fs.length g.ms.length))) σ) No:=by
 have G:=λσ=>qu m.name Z.name σ;have O:=λσ=>tG m.ret 3 g.ts.length σ;have U:=λ(t:Ty) σ=>tG t 2 g.ts.length σ;have hC:=λσ=>Hd m g Z hI σ;have am:=Z.ps;have ap:=Z.ls;have e3:(dU m.ret 3&&j9 m.ret g.ts.length)=y4 m.ret g.ts.length:=rfl;rw[e3]at O;have e2:∀t:Ty,(dU t 2&&j9 t g.ts.length)=kT t g.ts.length:=λt=>rfl;simp only[e2]at U;unfold JO;generalize bY m.name=fb at G|-;generalize y4 m.ret g.ts.length=ab at O|-;generalize uJ m g.ts.length g.fs.length g.ms.length=cb at hC|-;have F:∀t,kT t g.ts.length=(λt=>kT t g.ts.length) t:=λ_ =>rfl;generalize hp:(λt=>kT t g.ts.length)=p at F|-;simp only[F]at U;generalize V:m.ps.all p=PA;generalize X:m.ls.all p=LA;generalize w:decide (0<=m.flags∧m.flags<=31∧0<=m.max∧m.max<=12∧m.ps.length<=6∧m.ls.length<=12)=d0;simp only[aT,aN,cB,bq]at G O U hC|-;refine ad.ob func24 ?_;refine gO aa tI tI ?_;intro id ai;refine gO aa tI tI ?_;intro Q l ac;cases fb
 .skip
  refine gO aa l @G ?_;all_goals exact gJ tI
 .skip
  by_cases h1:m.flags<0
  .skip
   have A:d0=false:=by rw[<-w];simp;omega
   subst A;refine gO aa (j2 l @h1) @G ?_;all_goals exact gJ tI
  .skip
   by_cases M:31<m.flags
   .skip
    have A:d0=false:=by rw[<-w];simp;omega
    subst A;refine gO aa (j3 l @h1 @M) @G ?_;all_goals exact gJ tI
   .skip
    by_cases P:m.max<0
    .skip
     have A:d0=false:=by rw[<-w];simp;omega
     subst A;refine gO aa (j4 l @h1 @M @P) @G ?_;all_goals exact gJ tI
    .skip
     by_cases Y:12<m.max
     .skip
      have A:d0=false:=by rw[<-w];simp;omega
      subst A;refine gO aa (j5 l @h1 @M @P @Y) @G ?_;all_goals exact gJ tI
     .skip
      by_cases h5:m.ps.length<=6
      .have H:(6<(m.ps.length:Int))=False:=by simp;omega
       by_cases h6:m.ls.length<=12
       .have I:(12<(m.ls.length:Int))=False:=by simp;omega
        cases ab
        .skip
         refine gO aa (j7 l @h1 @M @P @Y @H @I) (j2 @G @O) ?_;all_goals exact gJ tI
        .skip
         have A:d0=true:=by rw[<-w];simp;omega
         subst A;refine gO aa (j7 l @h1 @M @P @Y @H @I) (j2 @G @O) ?_;refine aA.aY (α:=(Nat)) (0) (λi=>m.ps.length-i) (λi=>i<=m.ps.length∧ ∀x∈m.ps.take i,p x=true) [(2,?_),(3,?_),(5,?_)] (λi=> [(6,zI i)]) (λi=>(σ.set id (.cells 53 (fM m).cells)).set Q (.cells 26 (lp g).cells)) ?_ ?_ ?_ ?_;rotate_left 3
         .exact gF tI
         .exact gT
         ·(try dsimp only)<;>first|exact trivial|exact⟨by omega,rfl⟩|omega|(simp;done)|exact⟨by omega,by simp⟩|exact⟨by omega,by simp,rfl⟩
         intro i D;try dsimp only at D|-
         obtain⟨av,T⟩:=D;simp only[fm];by_cases o:i<m.ps.length
         .have K:zW ((i:Int)+1)=((i+1:Nat):Int):=bh (by omega);have u:=U m.ps[i];have E:p m.ps[i]=false->PA=false:=λh=>by rw[<-V];exact nr o h
          have v:p m.ps[i]=true-> ∀y∈m.ps.take (i+1),p y=true:=λh=>mC o T h;generalize S:m.ps[i]=t at*;cases q:p t with
          |false=>rw[q]at u;rw[E q];refine gO aa (j8 @o @S @aE l @ae @aT @aN @K) @u ?_;all_goals exact gJ tI
          |true=>
           rw[q]at u;refine gO aa (j8 @o @S @aE l @ae @aT @aN @K) @u ?_;refine aH.mk (i+1) (by(try dsimp only);omega) (gF tI) gT ?_;try dsimp only
           exact⟨o,v q⟩
         .have L:PA=true:=by rw[<-V];exact mD o T
          rw[L];refine gO aa (j5 @o l @ae @aT @aN) tI ?_;refine aA.aY (α:=(Nat)) (0) (λj=>m.ls.length-j) (λj=>j<=m.ls.length∧ ∀x∈m.ls.take j,p x=true) [(2,?_),(3,?_),(5,?_)] (λj=> [(7,zI j)]) (λj=>(σ.set id (.cells 53 (fM m).cells)).set Q (.cells 26 (lp g).cells)) ?_ ?_ ?_ ?_;rotate_left 3
          .exact gF tI
          .exact gT
          ·(try dsimp only)<;>first|exact trivial|exact⟨by omega,rfl⟩|omega|(simp;done)|exact⟨by omega,by simp⟩|exact⟨by omega,by simp,rfl⟩
          intro j D;try dsimp only at D|-
          obtain⟨ar,F⟩:=D;simp only[fm];by_cases n:j<m.ls.length
          .have J:zW ((j:Int)+1)=((j+1:Nat):Int):=bh (by omega);have u:=U m.ls[j];have E:p m.ls[j]=false->LA=false:=λh=>by rw[<-X];exact nr n h
           have v:p m.ls[j]=true-> ∀y∈m.ls.take (j+1),p y=true:=λh=>mC n F h;generalize S:m.ls[j]=t at*;cases q:p t with
           |false=>rw[q]at u;rw[E q];refine gO aa (j8 @n @S @aE l @ae @aT @aN @J) @u ?_;all_goals exact gJ tI
           |true=>
            rw[q]at u;refine gO aa (j8 @n @S @aE l @ae @aT @aN @J) @u ?_;refine aH.mk (j+1) (by(try dsimp only);omega) (gF tI) gT ?_;try dsimp only
            exact⟨n,v q⟩
          .have L:LA=true:=by rw[<-X];exact mD n F
           rw[L];refine gO aa (j5 @n l @ae @aT @aN) @hC ?_;all_goals exact gJ tI
       .have I:(12<(m.ls.length:Int))=True:=by simp;omega
        have A:d0=false:=by rw[<-w];simp;omega
        subst A;refine gO aa (j7 l @h1 @M @P @Y @H @I) (j2 @G @O) ?_;all_goals exact gJ tI
      .have H:(6<(m.ps.length:Int))=True:=by simp;omega
       have A:d0=false:=by rw[<-w];simp;omega
       subst A;refine gO aa (j6 l @h1 @M @P @Y @H) @G ?_;all_goals exact gJ tI
theorem Dd {α:Type}(F:α->Int) {l:List α}{i j:Nat}{o:i<l.length}{n:j<l.length}(h:i=j):F l[i]=F l[j]:=by subst h;rfl
theorem BW (g:bZ) (hL:Lm g) (hI:∀m∈g.ms,∀x∈m.code,Qc x) (σ:AS):
 ad prog 11 [lp g] σ (aq (.sc (.bool (As g))) σ) No:=by
 have hT:=λ(t:TD) (h:t∈g.ts) σ=>GZ t (hL.t t h).1 (hL.t t h).2 g.ts.length σ;have hF:=λ(f:Fd) (h:f∈g.fs) σ=>qu f.name (hL.f f h) σ;have hM:=λ(t:Ty) σ=>tG t 1 g.ts.length σ;have e1:∀t:Ty,(dU t 1&&j9 t g.ts.length)=nG t g.ts.length:=λt=>rfl;simp only[e1]at hM;have hN:=λ(m:Mt) (h:m∈g.ms) σ=>BV m g (hL.m m h) (hI m h) σ;simp only[JN]at hN;have ca:=hL.ts;have cc:=hL.fs;have cb:=hL.ms;unfold As Bz;have ay:∀t,F6 t g.ts.length=(λt=>F6 t g.ts.length) t:=λ_ =>rfl;generalize hp:(λt=>F6 t g.ts.length)=p at ay|-;simp only[ay]at hT;generalize a0:g.ts.all p=TA;generalize a4:lO g.ts.length 0 g.fs=FA;generalize a2:mu g.ts.length g.fs.length g.ms.length 0 g.ms=MA;have J:((decide (g.ts.length<=32)&&TA)&&((FA&&decide (g.fs.length<=64))&&((MA&&decide (g.ms.length<=64))&&decide (-1<=g.entry∧g.entry<g.ms.length))))=(decide (g.ts.length<=32∧g.fs.length<=64∧g.ms.length<=64∧ -1<=g.entry∧g.entry<g.ms.length)&&(TA&&(FA&&MA))):=by
  rw[Bool.eq_iff_iff];simp only[Bool.and_eq_true,decide_eq_true_eq];constructor
  .rintro⟨⟨a,b⟩,⟨c,d⟩,⟨e,f⟩,h⟩;exact⟨⟨a,d,f,h⟩,b,c,e⟩
  .rintro⟨⟨a,d,f,h⟩,b,c,e⟩;exact⟨⟨a,b⟩,⟨c,d⟩,⟨e,f⟩,h⟩
 rw[J];clear J;generalize J:decide (g.ts.length<=32∧g.fs.length<=64∧g.ms.length<=64∧ -1<=g.entry∧g.entry<g.ms.length)=d0;simp only[aN,aT,cK,cB]at hT hF hM hN|-;refine ad.ob func11 ?_;refine gO bB tI tI ?_;intro id b3;by_cases h1:g.ts.length<=32
 .have T:(32<(g.ts.length:Int))=False:=by simp;omega
  by_cases h2:g.fs.length<=64
  .have V:(64<(g.fs.length:Int))=False:=by simp;omega
   by_cases h3:g.ms.length<=64
   .have Z:(64<(g.ms.length:Int))=False:=by simp;omega
    by_cases h4:g.entry< -1
    .skip
     have Y:d0=false:=by rw[<-J];simp;omega
     subst Y;refine gO bB (j4 @T @V @Z @h4) tI ?_;all_goals exact gJ tI
    .skip
     by_cases h5:(g.ms.length:Int)<=g.entry
     .skip
      have Y:d0=false:=by rw[<-J];simp;omega
      subst Y;refine gO bB (j5 @T @V @Z @h4 @h5) tI ?_;all_goals exact gJ tI
     .skip
      have Y:d0=true:=by rw[<-J];simp;omega
      subst Y;simp only[Bool.true_and];refine gO bB (j5 @T @V @Z @h4 @h5) tI ?_;refine aA.aY (α:=(Nat)) (0) (λi=>g.ts.length-i) (λi=>i<=g.ts.length∧ ∀x∈g.ts.take i,p x=true) [(1,?_),(3,?_)] (λi=> [(4,zI i)]) (λi=>σ.set id (.cells 26 (lp g).cells)) ?_ ?_ ?_ ?_;rotate_left 2
      .exact gF tI
      .exact gT
      ·(try dsimp only)<;>first|exact trivial|exact⟨by omega,rfl⟩|omega|(simp;done)|exact⟨by omega,by simp⟩|exact⟨by omega,by simp,rfl⟩
      intro i P;try dsimp only at P|-
      obtain⟨hi,hX⟩:=P;simp only[fm];by_cases Q:i<g.ts.length
      .have ap:IntKind.i64.wrap ((i:Int)+1)=((i+1:Nat):Int):=bh (by omega);have al:=hT g.ts[i] (List.getElem_mem Q);have o:p g.ts[i]=false->TA=false:=λh=>by rw[<-a0];exact nr Q h
       have u:p g.ts[i]=true-> ∀y∈g.ts.take (i+1),p y=true:=λh=>mC Q hX h;generalize hc:g.ts[i]=t at*;cases ac:p t with
       |false=>rw[ac]at al;rw[o ac];refine gO bB (j6 @Q @hc @cK @ae @aN @ap) @al ?_;all_goals exact gJ tI
       |true=>
        rw[ac]at al;refine gO bB (j6 @Q @hc @cK @ae @aN @ap) @al ?_;refine aH.mk (i+1) (by(try dsimp only);omega) (gF tI) gT ?_;try dsimp only
        exact⟨Q,u ac⟩
      .have b1:TA=true:=by rw[<-a0];exact mD Q hX
       rw[b1];refine gO bB (j3 @Q @ae @aN) tI ?_;refine aA.aY (α:=(Nat)×(Int)) ((0,0)) (λ⟨j,last⟩=>g.fs.length-j) (λ⟨j,last⟩=>j<=g.fs.length∧lO g.ts.length 0 g.fs=lO g.ts.length last (g.fs.drop j)∧0<=last∧(j=0->last=0)∧ ∀O (X:O<g.fs.length),j=O+1->(g.fs[O]).owner=last) [(1,?_),(3,?_)] (λ⟨j,last⟩=> [(5,zI j)]) (λ⟨j,last⟩=>σ.set id (.cells 26 (lp g).cells)) ?_ ?_ ?_ ?_;rotate_left 2
       .exact gF tI
       .exact gT
       .exact⟨by omega,by simp,by omega,by simp,by intros;omega⟩
       intro x_ P;obtain⟨j,last⟩:=x_;try dsimp only at P|-
       obtain⟨hj,U,ar,hz,S⟩:=P;simp only[fm];by_cases ai:j<g.fs.length
       .have M:IntKind.i64.wrap ((j:Int)+1)=((j+1:Nat):Int):=bh (by omega);rw[List.drop_eq_getElem_cons ai]at U;simp only[lO]at U;have v:=hF g.fs[j] (List.getElem_mem ai);have H:=hM (g.fs[j]).ty;have w:∀O (X:O<g.fs.length),j+1=O+1->(g.fs[O]).owner=(g.fs[j]).owner:=λO X e=>Dd (λy:Fd=>y.owner) (by omega);generalize hc:g.fs[j]=f at*;have o:¬(bY f.name=true∧last<=f.owner∧f.owner<g.ts.length∧nG f.ty g.ts.length=true)->FA=false:=λh=>by rw[<-a4,U,if_neg h]
        have u:(bY f.name=true∧last<=f.owner∧f.owner<g.ts.length∧nG f.ty g.ts.length=true)->lO g.ts.length 0 g.fs=lO g.ts.length f.owner (g.fs.drop (j+1)):=λh=>by rw[U,if_pos h]
        clear U;refine gO bB (j5 @ai @hc @dq @ae @aN) tI ?_;intro a9 l D;have n:=ba l;by_cases h0:j=0
        .have bf:=hz h0;have F:¬(0<j):=by omega
         cases hb:bY f.name with
         |false=>rw[hb]at v;rw[o (λh=>by rw[hb]at h;cases h.1)];refine gO bB tI @v ?_;all_goals exact gJ tI
         |true=>
          rw[hb]at v;by_cases E:f.owner<0
          .rw[o (λh=>absurd h.2.1 (by omega))];refine gO bB @E @v ?_;all_goals exact gJ tI
          .skip
           by_cases K:(g.ts.length:Int)<=f.owner
           .rw[o (λh=>absurd h.2.2.1 (by omega))];refine gO bB (j4 @F @E @K @M) (j2 @v @H) ?_;all_goals exact gJ tI
           .skip
            cases ht:nG f.ty g.ts.length with
            |false=>rw[ht]at H;rw[o (λh=>by rw[ht]at h;cases h.2.2.2)];refine gO bB (j4 @F @E @K @M) (j2 @v @H) ?_;all_goals exact gJ tI
            |true=>
             rw[ht]at H;refine gO bB (j4 @F @E @K @M) (j2 @v @H) ?_;refine aH.mk ((j+1,f.owner)) (by(try dsimp only);omega) (gF tI) (by(try dsimp only);exact aw (by simp[l,D]) (lR _)) ?_;try dsimp only
             exact⟨by omega,u ⟨hb,by omega,by omega,ht⟩,by omega,by omega,w⟩
        .obtain⟨q,hq⟩:∃q,j=q+1:=⟨j-1,by omega⟩;have A:q<g.fs.length:=by omega
         have I:=S q A hq;have F:0<j:=by omega
         have z1:IntKind.i64.wrap ((j:Int)-1)=(q:Int):=by rw[C7];omega
         cases hb:bY f.name with
         |false=>rw[hb]at v;rw[o (λh=>by rw[hb]at h;cases h.1)];refine gO bB tI @v ?_;all_goals exact gJ tI
         |true=>
          rw[hb]at v;by_cases E:f.owner<0
          .rw[o (λh=>absurd h.2.1 (by omega))];refine gO bB @E @v ?_;all_goals exact gJ tI
          .skip
           by_cases K:(g.ts.length:Int)<=f.owner
           .rw[o (λh=>absurd h.2.2.1 (by omega))];refine gO bB (j2 @E @K) @v ?_;all_goals exact gJ tI
           .skip
            by_cases c3:f.owner<last
            .rw[o (λh=>absurd h.2.1 (by omega))];refine gO bB (And.intro (j7 l @dq @F @z1 @A @I @E) (j3 @K @c3 @ae)) (j2 @v @H) ?_;all_goals exact gJ tI
            .skip
             cases ht:nG f.ty g.ts.length with
             |false=>rw[ht]at H;rw[o (λh=>by rw[ht]at h;cases h.2.2.2)];refine gO bB (And.intro (j7 l @dq @F @z1 @A @I @E) (j3 @K @c3 @ae)) (j2 @v @H) ?_;all_goals exact gJ tI
             |true=>
              rw[ht]at H;repeat (first
               |refine g1 ?_
               |((first|refine g2 ?_ |((with_reducible apply dX 13 lL);refine dY mixed ?_)|((with_reducible apply dX 19 lK);refine dY mixed ?_)|((with_reducible apply aj.id);first|apply aj.aL (v _)|apply aj.aL (H _)));simp-implicitDefEqProofs [n,l,dq,F,z1,A,I,E,K,F,c3,ae,au,aN,M,l,n])
               |(refine g3 ?_;try simp-implicitDefEqProofs [n,l,dq,F,z1,A,I,E,K,F,c3,ae,au,aN,M,l,n]))
              refine aH.mk ((j+1,f.owner)) (by(try dsimp only);omega) (gF tI) (by(try dsimp only);exact aw (by simp[l,D]) (lR _)) ?_;try dsimp only
              exact⟨by omega,u ⟨hb,by omega,by omega,ht⟩,by omega,by omega,w⟩
       .have a3:FA=true:=by rw[<-a4,U,List.drop_eq_nil_of_le (by omega)];rfl
        rw[a3];refine gO bB (j3 @ai @ae @aN) tI ?_;refine aA.aY (α:=(Nat)×(Int)) ((0,0)) (λ⟨k,last⟩=>g.ms.length-k) (λ⟨k,last⟩=>k<=g.ms.length∧mu g.ts.length g.fs.length g.ms.length 0 g.ms=mu g.ts.length g.fs.length g.ms.length last (g.ms.drop k)∧0<=last∧(k=0->last=0)∧ ∀O (X:O<g.ms.length),k=O+1->(g.ms[O]).owner=last) [(1,?_),(3,?_)] (λ⟨k,last⟩=> [(7,zI k)]) (λ⟨k,last⟩=>σ.set id (.cells 26 (lp g).cells)) ?_ ?_ ?_ ?_;rotate_left 2
        .exact gF tI
        .exact gT
        .exact⟨by omega,by simp,by omega,by simp,by intros;omega⟩
        intro x_ P;obtain⟨k,last⟩:=x_;try dsimp only at P|-
        obtain⟨hj,U,ar,hz,S⟩:=P;simp only[fm];by_cases af:k<g.ms.length
        .have L:IntKind.i64.wrap ((k:Int)+1)=((k+1:Nat):Int):=bh (by omega);rw[List.drop_eq_getElem_cons af]at U;simp only[mu]at U;have G:=hN g.ms[k] (List.getElem_mem af);have w:∀O (X:O<g.ms.length),k+1=O+1->(g.ms[O]).owner=(g.ms[k]).owner:=λO X e=>Dd (λy:Mt=>y.owner) (by omega);generalize hc:g.ms[k]=m at*;have o:¬(last<=m.owner∧m.owner<g.ts.length∧F8 m g.ts.length g.fs.length g.ms.length=true)->MA=false:=λh=>by rw[<-a2,U,if_neg h]
         have u:(last<=m.owner∧m.owner<g.ts.length∧F8 m g.ts.length g.fs.length g.ms.length=true)->mu g.ts.length g.fs.length g.ms.length 0 g.ms=mu g.ts.length g.fs.length g.ms.length m.owner (g.ms.drop (k+1)):=λh=>by rw[U,if_pos h]
         clear U;refine gO bB (j5 @af @hc @aT @ae @aN) tI ?_;intro a9 l D;have n:=ba l;by_cases h0:k=0
         .have bf:=hz h0;have F:¬(0<k):=by omega
          by_cases E:m.owner<0
          .rw[o (λh=>absurd h.1 (by omega))];refine gO bB @E tI ?_;all_goals exact gJ tI
          .skip
           by_cases K:(g.ts.length:Int)<=m.owner
           .rw[o (λh=>absurd h.2.1 (by omega))];refine gO bB (j5 l @F @E @K @L) @G ?_;all_goals exact gJ tI
           .skip
            cases ht:F8 m g.ts.length g.fs.length g.ms.length with
            |false=>rw[ht]at G;rw[o (λh=>by rw[ht]at h;cases h.2.2)];refine gO bB (j5 l @F @E @K @L) @G ?_;all_goals exact gJ tI
            |true=>
             rw[ht]at G;refine gO bB (j5 l @F @E @K @L) @G ?_;refine aH.mk ((k+1,m.owner)) (by(try dsimp only);omega) (gF tI) (by(try dsimp only);exact aw (by simp[l,D]) (lR _)) ?_;try dsimp only
             exact⟨by omega,u ⟨by omega,by omega,ht⟩,by omega,by omega,w⟩
         .obtain⟨q,hq⟩:∃q,k=q+1:=⟨k-1,by omega⟩;have A:q<g.ms.length:=by omega
          have I:=S q A hq;have F:0<k:=by omega
          have z1:IntKind.i64.wrap ((k:Int)-1)=(q:Int):=by rw[C7];omega
          by_cases E:m.owner<0
          .rw[o (λh=>absurd h.1 (by omega))];refine gO bB @E tI ?_;all_goals exact gJ tI
          .skip
           by_cases K:(g.ts.length:Int)<=m.owner
           .rw[o (λh=>absurd h.2.1 (by omega))];refine gO bB (j2 @E @K) tI ?_;all_goals exact gJ tI
           .skip
            by_cases c3:m.owner<last
            .rw[o (λh=>absurd h.1 (by omega))];refine gO bB (And.intro (j7 l @aT @F @z1 @A @I @E) (j3 @K @c3 @ae)) @G ?_;all_goals exact gJ tI
            .skip
             cases ht:F8 m g.ts.length g.fs.length g.ms.length with
             |false=>rw[ht]at G;rw[o (λh=>by rw[ht]at h;cases h.2.2)];refine gO bB (And.intro (j7 l @aT @F @z1 @A @I @E) (j3 @K @c3 @ae)) @G ?_;all_goals exact gJ tI
             |true=>
              rw[ht]at G;repeat (first
               |refine g1 ?_
               |((first|refine g2 ?_ |((with_reducible apply dX 13 lL);refine dY mixed ?_)|((with_reducible apply dX 19 lK);refine dY mixed ?_)|((with_reducible apply aj.id);first|apply aj.aL (G _)));simp-implicitDefEqProofs [n,l,aT,F,z1,A,I,E,K,F,c3,ae,au,aN,L,l,n])
               |(refine g3 ?_;try simp-implicitDefEqProofs [n,l,aT,F,z1,A,I,E,K,F,c3,ae,au,aN,L,l,n]))
              refine aH.mk ((k+1,m.owner)) (by(try dsimp only);omega) (gF tI) (by(try dsimp only);exact aw (by simp[l,D]) (lR _)) ?_;try dsimp only
              exact⟨by omega,u ⟨by omega,by omega,ht⟩,by omega,by omega,w⟩
        .have a1:MA=true:=by rw[<-a2,U,List.drop_eq_nil_of_le (by omega)];rfl
         rw[a1];refine gO bB (j3 @af @ae @aN) tI ?_;all_goals exact gJ tI
   .have Z:(64<(g.ms.length:Int))=True:=by simp;omega
    have Y:d0=false:=by rw[<-J];simp;omega
    subst Y;refine gO bB (j3 @T @V @Z) tI ?_;all_goals exact gJ tI
  .have V:(64<(g.fs.length:Int))=True:=by simp;omega
   have Y:d0=false:=by rw[<-J];simp;omega
   subst Y;refine gO bB (j2 @T @V) tI ?_;all_goals exact gJ tI
 .have T:(32<(g.ts.length:Int))=True:=by simp;omega
  have Y:d0=false:=by rw[<-J];simp;omega
  subst Y;refine gO bB @T tI ?_;all_goals exact gJ tI
structure LE where
 R:zY
 rn:Bool
 N:zY
 nn:Bool
 B:zY
 bn:Bool
 C:zY
 cn:Bool
 en:Int
 t0:List (List Int)
 t1:List (List Int)
 t2:List (List Int)
 t3:List (List Int)
 t4:List (List Int)
 t5:List (List Int)
structure LD where
 sp:List Ty
 lo:List (List Ty)
 ty:AV
 fs:List Fd
 ms:List Mt
structure LK where
 id:Nat
 tP:Nat
 tO:Nat
 tF:Nat
 tM:Nat
variable {k:LK} {e:LE} {d:LD} {B τ:AS}
end Im
end Go.Proofs.YtknalmoackcpbaaGreat
