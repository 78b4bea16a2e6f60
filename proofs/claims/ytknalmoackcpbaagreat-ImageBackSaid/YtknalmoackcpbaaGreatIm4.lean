/- Own work. -/
import Derived.Test.YtknalmoackcpbaaGreatSvP
set_option maxRecDepth 100000
set_option maxHeartbeats 3200000
set_option linter.all false
namespace Go.Proofs.YtknalmoackcpbaaGreat
namespace Im
open Go Go.AW Tryz
theorem bz (S:List Nat):aH prog [] S:=mixed
open Rg (Cl ic aW Kd ed cG gw xm)
theorem Nv (t:Ty) (n:Int) (id:Nat) (σ:AS) (h:σ id=some (.cells 3 [.sc (.int .i64 n)])):
 aa prog 115 [cr t,.ptr id 0] σ (ao (.sc (.bool (!ri t n))) σ) No:=by
 have hl:=fun σ=>Jp t n σ;generalize ri t n=b at hl⊢;obtain⟨k,x,d,r⟩:=t;simp only[cr]at hl⊢;refine aa.ob func115 ?_;refine gO bz tI tI ?_;intro l j;have i:¬id=l:=nq h j;refine gO bz (j2 @h i) @hl ?_;all_goals (repeat' (with_reducible apply j2))
 all_goals exact gL tI
theorem Rk (c:Cl) (n:Int) (id:Nat) (σ:AS) (h:σ id=some (.cells 3 [.sc (.int .i64 n)])):
 aa prog 123 [ic c,.ptr id 0] σ (ao (.sc (.bool (!FN c n))) σ) No:=by
 have hl:=fun σ=>uo c n σ;generalize FN c n=b at hl⊢;simp only[aW]at hl⊢;refine aa.ob func123 ?_;refine gO bz tI tI ?_;intro l j;have i:¬id=l:=nq h j;refine gO bz (j2 @h i) @hl ?_;all_goals (repeat' (with_reducible apply j2))
 all_goals exact gL tI
theorem Rl (x:db) (m:Mt) (g:bZ) (n l:Nat) (σ:AS) (q:σ n=some (.cells 26 (pD g).cells)) (hm:σ l=some (.cells 53 (jK m).cells)):
 aa prog 120 [aJ x,.ptr n 0,.ptr l 0] σ (ao (.sc (.bool (!dZ x g.ts.length g.fs.length g.ms.length m.code.length))) σ) No:=by
 have hl:=fun σ=>instr_ok x g m.code.length σ;generalize dZ x g.ts.length g.fs.length g.ms.length m.code.length=b at hl⊢;simp only[iw,b9,cY,aQ]at hl q hm⊢;refine aa.ob func120 ?_;refine gO bz tI tI ?_;intro o j;have i:¬n=o:=nq q j;have h:¬l=o:=nq hm j;refine gO bz (j4 @q @hm i h) @hl ?_;all_goals (repeat' (with_reducible apply j2))
 all_goals exact gL tI
def PX (m:Mt) (nt nf nm:Int):Bool:=
 da m.name&&(decide (0≤m.flags∧m.flags≤31∧0≤m.max∧m.max≤12∧m.ps.length≤6∧m.ls.length≤12∧m.code.length≤160)&&(HC m.ret nt&&(m.ps.all (fun t=>ri t nt)&&(m.ls.all (fun t=>ri t nt)&&
  (m.code.all (fun x=>dZ x nt nf nm m.code.length)&&(m.cls.all (fun c=>FN c nt)&&decide ((ed (cG m.code.length) gw m.cls).2=0)))))))
structure Qg (m:Mt):Prop where
 name:m.name.length≤140737488355328
 ps:m.ps.length≤140737488355328
 ls:m.ls.length≤140737488355328
 code:m.code.length≤140737488355328
 cls:m.cls.length≤140737488355328
theorem GP (m:Mt) (g:bZ) (O:Qg m) (σ:AS):aa prog 54 [jK m,pD g] σ (ao (.sc (.bool (PX m g.ts.length g.fs.length g.ms.length))) σ) No:=by
 have q:=fun σ=>sD m.name O.name σ;have H:=fun σ=>HB m.ret g.ts.length σ;have F:=fun σ id (h:σ id=some (.cells 3 [.sc (.int .i64 g.ts.length)]))=>Sg.fI m.ps .aE m.pn (.fn (.func 115) [] [.ptr id 0]) (fun t=> !ri t g.ts.length) σ O.ps
  (fun x U=>mX.fn (Nv x g.ts.length id σ h))
 have E:=fun σ id (h:σ id=some (.cells 3 [.sc (.int .i64 g.ts.length)]))=>Sg.fI m.ls .aE m.ln (.fn (.func 115) [] [.ptr id 0]) (fun t=> !ri t g.ts.length) σ O.ls
  (fun x U=>mX.fn (Nv x g.ts.length id σ h))
 have L:=fun σ J I (hg:σ J=some (.cells 26 (pD g).cells)) (hm:σ I=some (.cells 53 (jK m).cells))=>JI m.code .aE m.cn (.fn (.func 120) [] [.ptr J 0,.ptr I 0])
  (fun x=> !dZ x g.ts.length g.fs.length g.ms.length m.code.length) σ O.code (fun x U=>mX.fn (Rl x m g J I σ hg hm))
 have M:=fun σ id (h:σ id=some (.cells 3 [.sc (.int .i64 g.ts.length)]))=>Kg m.cls .aE m.xn (.fn (.func 123) [] [.ptr id 0]) (fun t=> !FN t g.ts.length) σ O.cls
  (fun x U=>mX.fn (Rk x g.ts.length id σ h))
 have K:=fun σ=>xm m.code.length m.cls .aE m.xn O.cls σ;simp only[mT,Kd]at F E L M K;unfold PX;generalize da m.name=fb at q⊢;generalize HC m.ret g.ts.length=ab at H⊢;generalize (m.ps.all fun t=>ri t g.ts.length)=pb at F⊢;generalize (m.ls.all fun t=>ri t g.ts.length)=Z at E⊢;generalize (m.code.all fun x=>dZ x g.ts.length g.fs.length g.ms.length m.code.length)=ib at L⊢;generalize (m.cls.all fun c=>FN c g.ts.length)=cb at M⊢;generalize ed (cG m.code.length) gw m.cls=ck at K⊢;obtain⟨c1,c2⟩:=ck;simp only[cY,b9,cr,aQ]at q H F E L M K⊢;refine aa.ob func54 ?_;refine gO bz tI tI ?_;intro id Y;refine gO bz tI tI ?_;intro af A X;have j:=aA A;refine gO bz tI tI ?_;intro id3 u y V;have l:=aA u;have i:=aA y;cases fb
 ·refine gO bz (j2 j i) @q ?_;all_goals (repeat' (with_reducible apply j2))
  all_goals exact gL tI
 ·by_cases h1:m.flags<0
  ·refine gO bz (j3 j i @h1) @q ?_;all_goals (repeat' (with_reducible apply j2))
   all_goals exact gL tI
  ·by_cases v:31<m.flags
   ·refine gO bz (j4 j i @h1 @v) @q ?_;all_goals (repeat' (with_reducible apply j2))
    all_goals exact gL tI
   ·by_cases w:m.max<0
    ·refine gO bz (j5 j i @h1 @v @w) @q ?_;all_goals (repeat' (with_reducible apply j2))
     all_goals exact gL tI
    ·by_cases D:12<m.max
     ·refine gO bz (j6 j i @h1 @v @w @D) @q ?_;all_goals (repeat' (with_reducible apply j2))
      all_goals exact gL tI
     ·by_cases S:m.ps.length≤6
      ·have n:(6<(m.ps.length:Int))=False:=by simp;omega
       by_cases Q:m.ls.length≤12
       ·have o:(12<(m.ls.length:Int))=False:=by simp;omega
        cases ab
        ·refine gO bz (j8 j i @h1 @v @w @D @n @o) (j4 @q @H @F @E) ?_;all_goals (repeat' (with_reducible apply j2))
         all_goals exact gL tI
        ·cases pb
         ·refine gO bz (j8 j i @h1 @v @w @D @n @o) (j4 @q @H @F @E) ?_;all_goals (repeat' (with_reducible apply j2))
          all_goals exact gL tI
         ·cases Z
          ·refine gO bz (j8 j i @h1 @v @w @D @n @o) (j4 @q @H @F @E) ?_;all_goals (repeat' (with_reducible apply j2))
           all_goals exact gL tI
          ·by_cases P:m.code.length≤160
           ·have G:(160<(m.code.length:Int))=False:=by simp;omega
            cases ib
            ·refine gO bz (j2 (j7 j i l @h1 @v @w @D) (j3 @n @o @G)) (j7 @q @H @F @E L @M @K) ?_;all_goals (repeat' (with_reducible apply j2))
             all_goals exact gL (j7 @h1 @v @w @D @S @Q @P)
            ·cases cb
             ·refine gO bz (j2 (j7 j i l @h1 @v @w @D) (j3 @n @o @G)) (j7 @q @H @F @E L @M @K) ?_;all_goals (repeat' (with_reducible apply j2))
              all_goals exact gL (j7 @h1 @v @w @D @S @Q @P)
             ·refine gO bz (j2 (j7 j i l @h1 @v @w @D) (j3 @n @o @G)) (j7 @q @H @F @E L @M @K) ?_;all_goals (repeat' (with_reducible apply j2))
              all_goals exact gL (j7 @h1 @v @w @D @S @Q @P)
           ·have G:(160<(m.code.length:Int))=True:=by simp;omega
            refine gO bz (j2 (j7 j i l @h1 @v @w @D) (j3 @n @o @G)) (j7 @q @H @F @E L @M @K) ?_;refine j2 (iR (by simp[P])) ?_;all_goals (repeat' (with_reducible apply j2))
            all_goals exact gL tI
       ·have o:(12<(m.ls.length:Int))=True:=by simp;omega
        refine gO bz (j8 j i @h1 @v @w @D @n @o) (j4 @q @H @F @E) ?_;refine j2 (iR (by simp[Q])) ?_;all_goals (repeat' (with_reducible apply j2))
        all_goals exact gL tI
      ·have n:(6<(m.ps.length:Int))=True:=by simp;omega
       refine gO bz (j7 j i @h1 @v @w @D @n) @q ?_;refine j2 (iR (by simp[S])) ?_;all_goals (repeat' (with_reducible apply j2))
       all_goals exact gL tI
def wO (nt nf nm:Int):Int→List Mt→Bool
 | _,[]=>true
 |last,m::r=>if last≤m.owner∧m.owner<nt∧PX m nt nf nm=true then wO nt nf nm m.owner r else false
theorem DH (g:bZ) (hl:g.ms.length≤140737488355328) (J:∀m∈g.ms,Qg m) (σ:AS):
 aa prog 20 [pD g] σ (ao (.sc (.bool (wO g.ts.length g.fs.length g.ms.length 0 g.ms&&decide (g.ms.length≤64)))) σ) No:=by
 have E:((g.ms.length:Int)≤64)=(g.ms.length≤64):=by simp;omega
 have G:=fun(m:Mt) (h:Qg m) σ=>GP m g h σ;simp only[b9,cY]at G⊢;refine aa.ob func20 ?_;refine gO bz tI tI ?_;intro id F;refine gO bz tI tI ?_;refine ae.bp (α:=(Nat)×(Int)) ((0,0)) (fun⟨i,last⟩=>g.ms.length-i) (fun⟨i,last⟩=>i≤g.ms.length∧wO g.ts.length g.fs.length g.ms.length 0 g.ms=wO g.ts.length g.fs.length g.ms.length last (g.ms.drop i)) [(1,?_),(7,?_),(8,?_)] (fun⟨i,last⟩=> [(9,.sc (.int .i64 i)),(3,.sc (.int .i64 last))]) (fun⟨i,last⟩=>σ.set id (.cells 26 (pD g).cells)) ?_ ?_ ?_ ?_;rotate_left 3
 ·exact gF tI
 ·exact gT
 ·(try dsimp only)<;>first|exact trivial|exact⟨by omega,rfl⟩|omega|(simp;done)|exact⟨by omega,by simp⟩|exact⟨by omega,by simp,rfl⟩
 intro H w;obtain⟨i,last⟩:=H;try dsimp only at w⊢
 obtain⟨L,u⟩:=w;simp only[gj];by_cases o:i<g.ms.length
 ·have n:IntKind.i64.wrap ((i:Int)+1)=((i+1:Nat):Int):=cv (by omega);rw[List.drop_eq_getElem_cons o]at u;simp only[wO]at u;have q:=G g.ms[i] (J _ (List.getElem_mem o));generalize K:g.ms[i]=m at*;refine gO bz (j5 o @K @cY @aI @b9) tI ?_;intro I l v;have j:=aA l;by_cases A:m.owner<last
  ·rw[u,if_neg (fun h=>absurd h.1 (by omega))];refine gO bz @A tI ?_;all_goals (repeat' (with_reducible apply j2))
   all_goals exact gL tI
  ·by_cases D:(g.ts.length:Int)≤m.owner
   ·rw[u,if_neg (fun h=>absurd h.2.1 (by omega))];refine gO bz (j4 j @A @D @n) @q ?_;all_goals (repeat' (with_reducible apply j2))
    all_goals exact gL tI
   ·cases y:PX m g.ts.length g.fs.length g.ms.length with
    |false=>
     rw[y]at q;rw[u,if_neg (by simp[y])];refine gO bz (j4 j @A @D @n) @q ?_;all_goals (repeat' (with_reducible apply j2))
     all_goals exact gL tI
    |true=>
     rw[y]at q;rw[if_pos ⟨by omega,by omega,y⟩]at u;refine gO bz (j4 j @A @D @n) @q ?_;refine aP.mk ((i+1,m.owner)) (by(try dsimp only);omega) (gF tI) (by(try dsimp only);exact aq (by simp[l,v]) (lR _)) ?_;try dsimp only
     exact⟨o,u⟩
 ·rw[List.drop_eq_nil_of_le (by omega)]at u;rw[u];simp only[wO];refine gO bz (j4 o @E @aI @b9) tI ?_;all_goals (repeat' (with_reducible apply j2))
  all_goals exact gL tI
structure KW (g:bZ):Prop where
 ts:g.ts.length≤140737488355328
 fs:g.fs.length≤140737488355328
 ms:g.ms.length≤140737488355328
 t:∀t∈g.ts,t.aZ.length≤140737488355328∧t.name.length≤140737488355328
 f:∀f∈g.fs,f.name.length≤140737488355328
 m:∀m∈g.ms,Qg m
def DY (g:bZ):Bool:=H5 g.ts&&((rP g.ts.length 0 g.fs&&decide (g.fs.length≤64))&&((wO g.ts.length g.fs.length g.ms.length 0 g.ms&&decide (g.ms.length≤64))&&decide (-1≤g.entry∧g.entry<g.ms.length)))
theorem uc (g:bZ) (j:KW g) (σ:AS):aa prog 9 [pD g] σ (ao (.sc (.bool (DY g))) σ) No:=by
 have h1:=fun σ=>H2 g j.ts j.t σ;have i:=fun σ=>ug g j.fs j.ts j.f σ;have h:=fun σ=>DH g j.ms j.m σ;unfold DY;generalize H5 g.ts=v at h1⊢;generalize (rP g.ts.length 0 g.fs&&decide (g.fs.length≤64))=u at i⊢;generalize (wO g.ts.length g.fs.length g.ms.length 0 g.ms&&decide (g.ms.length≤64))=q at h⊢;simp only[b9]at h1 i h⊢;refine aa.ob func9 ?_;refine gO bz tI tI ?_;intro id n;cases v
 ·refine gO bz tI (j3 @h1 @i @h) ?_;all_goals (repeat' (with_reducible apply j2))
  all_goals exact gL tI
 ·cases u
  ·refine gO bz tI (j3 @h1 @i @h) ?_;all_goals (repeat' (with_reducible apply j2))
   all_goals exact gL tI
  ·cases q
   ·refine gO bz tI (j3 @h1 @i @h) ?_;all_goals (repeat' (with_reducible apply j2))
    all_goals exact gL tI
   ·by_cases l: -1≤g.entry
    ·by_cases o:g.entry<g.ms.length
     ·refine gO bz (j2 @l @o) (j3 @h1 @i @h) ?_;all_goals (repeat' (with_reducible apply j2))
      all_goals exact gL tI
     ·refine gO bz (j2 @l @o) (j3 @h1 @i @h) ?_;all_goals (repeat' (with_reducible apply j2))
      all_goals exact gL tI
    ·refine gO bz @l (j3 @h1 @i @h) ?_;all_goals (repeat' (with_reducible apply j2))
     all_goals exact gL tI
abbrev oq:b7:=(.alt 0 (.alt 1 (.step 2 (.step 3 (.alt 4 (.step 5 .done) .none))) .none) (.alt 1 (.step 2 (.read 0 (.step 3 (.alt 4 (.step 5 .done) .none)))) .none))
theorem bf (S:List Nat):aH prog [(3,oq)] S:=mixed
open Sg (aD bL cN cD lp mC dW)
open Pl (sV bX cg)
def nX (g:bZ):List (By):=C1 g g.ms.length
def eJ (g:bZ):List (By):=Ee g++(dJ g).lo.map (fun t=>cN (dW t))
def kG (g:bZ) (nm bl:Nat→Int):List (List (List Int)):= [cI g nm,cF g nm bl,cK g nm bl,(du g).flatten,dN g bl,eC g bl]
def nC (g:bZ) (i:Nat):Int:=(bX (nX g)).2.1.getD i 0
def nY (g:bZ) (i:Nat):Int:=(cg (eJ g)).2.1.getD i 0
def uK (a b c d:By):By×Int:=
 if 65536<a.length∨65536<b.length∨65536<c.length∨65536<d.length∨65536<(St.jo (fun k=>(St.jc a b c d k))).length then([],4)else(St.jo (fun k=>St.jc a b c d k),0)
def cQ (g:bZ):By×Int:=
 if DY g=false then([],17)else
 if (bX (nX g)).2.2≠0 then([],(bX (nX g)).2.2)else
 if (cg (eJ g)).2.2≠0 then([],(cg (eJ g)).2.2)else
 if Rw.okW (kG g (nC g) (nY g)) (g.entry+1)=false then([],4)else
 uK (Rw.dr (kG g (nC g) (nY g)) (g.entry+1)) (bX (nX g)).1 (cg (eJ g)).1 (dJ g).co
def xU (g:bZ):AV:= .bQ [.an 5 ((cQ g).1.map u8) .aE (decide ((cQ g).2≠0)),.sc (.int .i64 (cQ g).2)]
theorem nJ {g:bZ}{e:Int}(he:e≠0) (h:cQ g=([],e)):AV.Wk prog (.bQ [.ai,.sc (.int .i64 e)]) (xU g):=by unfold xU;rw[h];exact cq (by simp[he]) (Wk.refl _)
def QG:List (Nat×TypeId):= [(4,49),(6,47),(8,9),(9,30),(10,5)]
def SA:List (Nat×TypeId):= [(0,44),(1,44),(2,44),(3,44),(4,44),(5,44)]
def R1 (g:bZ) (bq:Nat):List AV:= [.an 46 (g.ts.map kE) .aE g.tn,.an 56 (g.fs.map ny) .aE g.fn,.an 53 (g.ms.map jK) .aE g.mn,.sc (.int .i64 g.entry),
 .ai,.sc (.func (.func 25) #[] #[]),.ai,.sc (.func (.func 26) #[] #[]),.ai,.ai,.ai,.sc (.int .i64 0),.fT bq 0 6 6]
theorem SI.init {g:bZ}{B σ A v:AS}{aT bq:Nat}{l i:List Nat}(S:B aT=none) (U:B bq=none) (w:aT≠bq) (I:∀j,j≠aT→j≠bq→σ j=B j) (H:σ aT≠none) (D:σ bq≠none)
 (l1:l.length=5) (n1:l.Nodup) (f1:∀t∈l,σ t=none) (V:A aT=some (.cells 74 (Bj (R1 g bq) QG l))) (t1:∀t∈l,A t=some (.tok 0)) (G:∀j,j≠aT→j ∉ l→A j=σ j)
 (l2:i.length=6) (n2:i.Nodup) (f2:∀t∈i,A t=none) (J:v bq=some (.cells 94 (Bj [.ai,.ai,.ai,.ai,.ai,.ai] SA i))) (t2:∀t∈i,v t=some (.tok 0)) (F:∀j,j≠bq→j ∉ i→v j=A j):
 ∃k T,k.aT=aT∧SI k g ⟨[],[],[],[],[]⟩ T B v∧cJ T= [[],[],[],[],[],[]]:=by
 have a1:aT ∉ l:=fun h=>H (f1 _ h);have P:bq ∉ l:=fun h=>D (f1 _ h);have O:aT ∉ i:=fun h=>by have:=f2 _ h;rw[V]at this;cases this
 have Z:bq ∉ i:=fun h=>by have:=f2 _ h;rw[G _ w.symm P]at this;exact D this
 have M:∀t∈l,t ∉ i:=fun t ht h=>by have:=f2 _ h;rw[t1 t ht]at this;cases this
 have L:∀t∈l,t≠aT∧t≠bq:=fun t ht=>⟨fun e=>a1 (e ▸ ht),fun e=>P (e ▸ ht)⟩;have K:∀t∈i,t≠aT∧t≠bq:=fun t ht=>⟨fun e=>O (e ▸ ht),fun e=>Z (e ▸ ht)⟩;have y:∀t∈l,v t=some (.tok 0):=fun t ht=>by rw[F _ (L t ht).2 (M t ht)];exact t1 t ht
 have Y:∀t∈l,B t=none:=fun t ht=>by rw[←I _ (L t ht).1 (L t ht).2];exact f1 t ht
 have X:∀t∈i,B t=none:=fun t ht=>by rw[←I _ (K t ht).1 (K t ht).2,←G _ (K t ht).1 (fun h=>M t h ht)];exact f2 t ht
 have hle:AS.le B v:=by
  intro j b u;have Q:j≠aT:=nq S u;have j2:j≠bq:=nq U u;have j3:j ∉ l:=fun h=>by rw[Y _ h]at u;cases u
  have j4:j ∉ i:=fun h=>by rw[X _ h]at u;cases u
  rw[F _ j2 j4,G _ Q j3,I _ Q j2];exact u
 have n:v aT=some (.cells 74 (Bj (R1 g bq) QG l)):=by rw[F _ w O];exact V
 have o:(aT::bq::(l++i)).Nodup:=by simp only[List.nodup_cons,List.mem_cons,List.mem_append,not_or];exact⟨⟨w,a1,O⟩,⟨P,Z⟩,List.nodup_append.2 ⟨n1,n2,fun a ha b hb e=>M a ha (e ▸ hb)⟩⟩
 have q:∀j∈aT::bq::(l++i),B j=none:=by
  intro j u;simp only[List.mem_cons,List.mem_append]at u;rcases u with rfl|rfl|h|h
  ·exact S
  ·exact U
  ·exact Y j h
  ·exact X j h
 match l,l1,n,y,o,q with
 |[a,b,c,d,e],_,n,y,o,q=>
 match i,l2,J,t2,o,q with
 |[x0,x1,x2,x3,x4,x5],_,J,t2,o,q=>
  refine⟨⟨aT,bq,a,b,c,d,e⟩,[(x0,[]),(x1,[]),(x2,[]),(x3,[]),(x4,[]),(x5,[])],rfl,⟨n,J,y a (by simp),y b (by simp),y c (by simp),y d (by simp),y e (by simp),?_,?_,hle,rfl,o,q⟩,rfl⟩
  ·intro x E;simp only[List.mem_cons,List.not_mem_nil,or_false]at E;rcases E with rfl|rfl|rfl|rfl|rfl|rfl<;>exact t2 _ (by simp)
  ·intro x E p hp;simp only[List.mem_cons,List.not_mem_nil,or_false]at E;rcases E with rfl|rfl|rfl|rfl|rfl|rfl<;>cases hp
def Ej (g:bZ):List Int:=(bX (nX g)).2.1
def AB (g:bZ):List Int:=(cg (eJ g)).2.1
section
variable {k:SK} {g:bZ} {d:SD} {T:SR} {B τ:AS} {en:Int}
theorem SJ.le (h:SJ k g d T B en τ):AS.le B τ:=by obtain⟨i,h0,rfl⟩:=h;exact AS.ah h0.le (h0.NA).1
theorem SJ.mP (h:SJ k g d T B en τ) {i:Nat}(j:τ i=none):B i=none:=qG h.le j
theorem SJ.own (h:SJ k g d T B en τ) {i:Nat}{b:bN}(l:τ i=none):SJ k g d T (B.set i b) en (τ.set i b):=by
 have j:k.aT≠i:=by rintro e;have:=h.aT;rw[e,l]at this;cases this
 obtain⟨n,h0,rfl⟩:=h;rw[AS.ad _ _ (Ne.symm j)]at l;exact⟨_,h0.own l,AS.set_comm j⟩
theorem SJ.drop (h:SJ k g d T B en τ) {B':AS}(hle:AS.le B' B):SJ k g d T B' en τ:=by obtain⟨i,h0,rfl⟩:=h;exact⟨i,h0.drop hle,rfl⟩
theorem SJ.step (h:SJ k g d T B en τ) {t c:Nat}{P:List Int}{op:cL}{np:Bool}{X:List (List Int)}(i:(cJ T)[t]? =some X) (hl:X.length≤100000) (u:P.length≤100000) (q:∀r∈X,c<r.length∧0≤r.getD c 0∧(r.getD c 0).toNat<P.length∧r.length≤1000):
 aa prog 31 [.ptr k.aT 0,.sc (.int .i64 t),.sc (.int .i64 c),.an 3 (P.map aV) op np] τ (fun r l=>r= .bQ []∧ ∃n,SJ k g d n B en l∧cJ n=(cJ T).modify t (·.map (KT c P))) No:=by
 rw[cJ,List.getElem?_map]at i;cases j:T[t]? with
 |none=>rw[j]at i;cases i
 |some x=>rw[j]at i;simp only[Option.map_some,Option.some.injEq]at i;subst i;exact(h.place j (by simpa using hl) u (fun p o=>q p.2 (List.mem_map.2 ⟨p,o,rfl⟩))).mono (fun r l ⟨h1,v⟩=>⟨h1,_,v,Ia _ _ _ _⟩) (fun _ _ h=>h)
end
theorem iP {α β:Type}{f:Nat→α→β}{l:List α}{y:β}(h:y∈l.mapIdx f):∃i,∃j:i<l.length,y=f i l[i]:=by obtain⟨i,j,rfl⟩:=List.getElem_of_mem h;exact⟨i,by simpa using j,by simp⟩
theorem I5 {τ:AS} :∀ {L:List Fz}{σ:AS},AS.le σ τ→(∀p∈L,τ p.1=some (.cells p.2.1 (az p.2.2)))→AS.le (wI L σ) τ
 |[],_,h,_ =>h
 |p::r,σ,h,l=>by
  intro j b i;by_cases e:j=p.1
  ·subst e;rw[wI,AS.aj]at i;cases i;exact l p (by simp)
  ·rw[wI,AS.ad _ _ e]at i;exact I5 h (fun q n=>l q (by simp[n])) j b i
theorem xd:∀ {l:List AV},(∀v∈l,v.cells= [v])→az l=l
 |[],_ =>rfl
 |v::r,h=>by rw[kf,h v (by simp),xd fun x i=>h x (by simp[i])];rfl
def Gp (T:SR):Rw.KV:=T.map fun x=>(x.2.map (fun p=>(p.2,false)),decide (x.2= []))
theorem EZ (T:SR):Rw.pl (Gp T)=cJ T:=by simp[Rw.pl,Gp,Rw.vb,cJ,Function.comp_def]
def Q5 (T:SR):List Fz:=T.flatMap fun x=>x.2.map fun p=>(p.1,3,p.2.map aV)
section
variable {k:SK} {g:bZ} {d:SD} {T:SR} {B τ:AS} {en:Int}
theorem SJ.write (h:SJ k g d T B en τ) (Z:∀y∈cJ T,y.length≤20000) (Y:∀y∈cJ T,∀r∈y,r.length≤1000) (hF:Rw.ff (cJ T)=true):
 aa prog 32 [.agg [.sc (.int .i64 en),.fT k.bq 0 6 6]] τ (Rw.zi (Rw.dr (cJ T) en) (Rw.okW (cJ T) en) (B.set k.aT (.cells 74 (vZ k g d en)))) No:=by
 have U:=h.aT;have hw:=Rw.F5 en (Gp T) .aE false (fun x j=>by
  obtain⟨y,o,rfl⟩:=List.mem_map.1 j;have:=Z _ (List.mem_map.2 ⟨y,o,rfl⟩);simpa using this) (fun x j r K=>by
  obtain⟨y,o,rfl⟩:=List.mem_map.1 j;obtain⟨p,n,rfl⟩:=List.mem_map.1 K;exact Y _ (List.mem_map.2 ⟨y,o,rfl⟩) p.2 (List.mem_map.2 ⟨p,n,rfl⟩)) (by rw[EZ];exact hF) (B.set k.aT (.cells 74 (vZ k g d en)))
 rw[EZ]at hw;obtain⟨τ0,h0,Q⟩:=h;have D:∀v∈T.map Ba,v.cells= [v]:=fun v E=>by obtain⟨x,_,rfl⟩:=List.mem_map.1 E;rfl
 have hint:∀(l:List Int),∀v∈l.map aV,v.cells= [v]:=fun l v E=>by obtain⟨x,_,rfl⟩:=List.mem_map.1 E;rfl
 have w:∀p∈Q5 T,∃x∈T,∃q∈x.2,p=(q.1,3,q.2.map aV):=fun p n=>by obtain⟨x,j,n⟩:=List.mem_flatMap.1 n;obtain⟨q,u,rfl⟩:=List.mem_map.1 n;exact⟨x,j,q,u,rfl⟩
 have I:(Q5 T).map (·.1)=T.flatMap fun x=>x.2.map (·.1):=by simp[Q5,List.map_flatMap,Function.comp_def]
 have O:=List.nodup_append.1 h0.kG;have H:=h0.ne;have P:=h0.NA;refine aa.le (σ:=wI ((k.bq,94,T.map Ba)::Q5 T) (B.set k.aT (.cells 74 (vZ k g d en)))) (aa.UR ((k.bq,94,T.map Ba)::Q5 T) hw ?_ ?_ ?_ ?_) (I5 ?_ ?_)
 ·intro p n;rcases List.mem_cons.1 n with rfl|n
  ·rw[AS.ad _ _ (Ne.symm H.1)];exact P.2.1
  ·obtain⟨x,j,q,u,rfl⟩:=w p n;rw[AS.ad _ _ (h0.Dr j u).1];exact h0.fr q.1 (by simp only[keys,List.mem_cons,List.mem_append,List.mem_flatMap,List.mem_map];exact .inr (.inr (.inr (.inr (.inr (.inr (.inr (.inr ⟨x,j,q,u,rfl⟩))))))))
 ·rw[List.map_cons,I,List.nodup_cons];refine⟨fun hm=> ?_,O.2.1⟩;obtain⟨x,j,hm⟩:=List.mem_flatMap.1 hm;obtain⟨q,u,e⟩:=List.mem_map.1 hm;exact(h0.Dr j u).2.1 e
 ·intro p n v E;rcases List.mem_cons.1 n with rfl|n
  ·rw[D v E];simp
  ·obtain⟨x,j,q,u,rfl⟩:=w p n;rw[hint _ v E];simp
 ·intro G xs S K;have F:=S _ (List.mem_cons_self);have M:∀x∈T,∀q∈x.2,∀y,ba prog G (HL q) y→ba prog G (Rw.iV (q.2,false)) y:=fun x j q u y o=>by have:=S (q.1,3,q.2.map aV) (List.mem_cons_of_mem _ (List.mem_flatMap.2 ⟨x,j,List.mem_map.2 ⟨q,u,rfl⟩⟩)) y (by simpa[HL]using o);exact(qm _ _ _ _).2 trivial _ _ this
  have L:∀x∈T,∀y,ba prog G (Ba x) y→ba prog G (Rw.lV (x.2.map (fun p=>(p.2,false)),decide (x.2= []))) y:=fun x j y o=>by
   refine BS (by simp) (by simp) (fun i A=>⟨?_,?_⟩) (fun i A y o=> ?_) o
   ·simp[HL,AV.cells]
   ·simp[Rw.iV,AV.cells]
   ·simp only[List.getElem_map]at o⊢;exact M x j _ (List.getElem_mem _) y o
  have J:∀y,ba prog G (.fT k.bq 0 6 6) y→ba prog G (.an 94 ((Gp T).map Rw.lV) .aE false) y:=fun y o=>by
   have h1:=F y (by simpa[h0.EO]using o);refine BS (by simp) (by simp[Gp]) (fun i A=>⟨?_,?_⟩) (fun i A y o=> ?_) h1
   ·simp[Ba,AV.cells]
   ·simp[Rw.lV,AV.cells]
   ·simp only[List.getElem_map,Gp]at o⊢;exact L _ (List.getElem_mem _) y o
  refine⟨K.1,fun i A=> ?_⟩;have h1:=K.2 i A
  match i,A with
  |0,_ =>
   simp only[List.getD_cons_zero]at h1⊢;generalize xs.getD 0 undef=x at h1⊢;cases h1 with
   |agg vs l X=>
    refine .agg vs l fun i A=> ?_;have V:=X i A
    match i,A with
    |0,_ =>exact V
    |1,_ =>exact J _ V
 ·rw[Q];exact kC h0.le
 ·intro p n;rw[Q];rcases List.mem_cons.1 n with rfl|n
  ·rw[AS.ad _ _ (Ne.symm H.1),h0.bq,xd D]
  ·obtain⟨x,j,q,u,rfl⟩:=w p n;rw[AS.ad _ _ (h0.Dr j u).1,h0.row x j q u,xd (hint _)];rfl
end
theorem pQ {α β γ:Type}(f:Nat→α→β) (h:β→γ) (l:List α):(l.mapIdx f).map h=l.mapIdx fun i x=>h (f i x):=by apply List.ext_getElem<;>simp
theorem Q9 (g:bZ):(cI g dI).map (KT 1 (Ej g))=cI g (nC g):=by unfold cI;rw[pQ];congr 1
theorem Oy (g:bZ) (b:Nat→Int):(cF g dI b).map (KT 1 (Ej g))=cF g (nC g) b:=by unfold cF;rw[pQ];congr 1
theorem Ow (g:bZ) (b:Nat→Int):(cK g dI b).map (KT 3 (Ej g))=cK g (nC g) b:=by unfold cK;rw[pQ];congr 1
theorem Ox (g:bZ) (n:Nat→Int):(cF g n dI).map (KT 2 (AB g))=cF g n (nY g):=by unfold cF;rw[pQ];congr 1
theorem Ov (g:bZ) (n:Nat→Int):(cK g n dI).map (KT 4 (AB g))=cK g n (nY g):=by unfold cK;rw[pQ];congr 1
theorem Ra (g:bZ):(dN g dI).map (KT 0 (AB g))=dN g (nY g):=by unfold dN;rw[List.map_map];congr 1
theorem Rb (g:bZ):(eC g dI).map (KT 0 (AB g))=eC g (nY g):=by unfold eC;rw[List.map_map];congr 1
def SB (g:bZ) (i:Nat):List (List (List Int)):= [cI g (if 0<i then nC g else dI),cF g (if 1<i then nC g else dI) dI,cK g (if 2<i then nC g else dI) dI,(du g).flatten,dN g dI,eC g dI]
def PM (g:bZ) (i:Nat):List (List (List Int)):= [cI g (nC g),cF g (nC g) (if 0<i then nY g else dI),cK g (nC g) (if 1<i then nY g else dI),(du g).flatten,dN g (if 2<i then nY g else dI),eC g (if 3<i then nY g else dI)]
theorem GL {l:List (By)}(h:(bX l).2.2=0):(bX l).1.length≤65536:=by
 unfold bX at*;split at h
 ·simp at h
 ·rename_i j;rw[if_neg j];split at h
  ·simp at h
  ·rename_i i;rw[if_neg i];show(Pl.tK l [0] []).1.length≤65536;omega
theorem Hu {l:List (By)}(h:(cg l).2.2=0):(cg l).1.length≤65536:=by
 unfold cg at*;split at h
 ·simp at h
 ·rename_i i;rw[if_neg i];show(Pl.ur l [0] []).1.length≤65536;omega
theorem vA (g:bZ):(nX g).length=g.ts.length+g.fs.length+g.ms.length:=by simp[nX,C1];omega
theorem OO {g:bZ}(h:KW g):∀s∈nX g,s.length≤140737488355328:=by
 intro s j;simp only[nX,C1,List.take_length,List.mem_append,List.mem_map]at j;rcases j with(⟨x,i,rfl⟩|⟨x,i,rfl⟩)|⟨x,i,rfl⟩
 ·exact(h.t x i).2
 ·exact h.f x i
 ·exact(h.m x i).name
theorem qg (g:bZ):(eJ g).length=g.fs.length+g.ms.length+(dJ g).sp.length+(dJ g).lo.length:=by rw[eJ,List.length_append,Ee,List.length_append,qQ];simp
theorem Wx {g:bZ}(h:(Ej g).length=(nX g).length):∀r∈cI g dI,1<r.length∧0≤r.getD 1 0∧(r.getD 1 0).toNat<(Ej g).length∧r.length≤1000:=by intro r j;obtain⟨i,l,rfl⟩:=iP j;have:=vA g;simp[ru,dI];omega
theorem Ww {g:bZ}{b:Nat→Int}(h:(Ej g).length=(nX g).length):∀r∈cF g dI b,1<r.length∧0≤r.getD 1 0∧(r.getD 1 0).toNat<(Ej g).length∧r.length≤1000:=by intro r j;obtain⟨i,l,rfl⟩:=iP j;have:=vA g;simp[uR,dI];omega
theorem Wv {g:bZ}{b:Nat→Int}(h:(Ej g).length=(nX g).length):∀r∈cK g dI b,3<r.length∧0≤r.getD 3 0∧(r.getD 3 0).toNat<(Ej g).length∧r.length≤1000:=by intro r j;obtain⟨i,l,rfl⟩:=iP j;have:=vA g;simp[dT]at l;simp[sk,dI];omega
theorem Wu {g:bZ}{n:Nat→Int}(h:(AB g).length=(eJ g).length):∀r∈cF g n dI,2<r.length∧0≤r.getD 2 0∧(r.getD 2 0).toNat<(AB g).length∧r.length≤1000:=by intro r j;obtain⟨i,l,rfl⟩:=iP j;have:=qg g;simp[uR,dI];omega
theorem Wt {g:bZ}{n:Nat→Int}(h:(AB g).length=(eJ g).length):∀r∈cK g n dI,4<r.length∧0≤r.getD 4 0∧(r.getD 4 0).toNat<(AB g).length∧r.length≤1000:=by intro r j;obtain⟨i,l,rfl⟩:=iP j;have:=qg g;simp[dT]at l;simp[sk,dI];omega
theorem Ws {g:bZ}(h:(AB g).length=(eJ g).length):∀r∈dN g dI,0<r.length∧0≤r.getD 0 0∧(r.getD 0 0).toNat<(AB g).length∧r.length≤1000:=by intro r j;obtain⟨i,l,rfl⟩:=List.mem_map.1 j;have:=qg g;simp at l;simp[qh,dI];omega
theorem Wr {g:bZ}(h:(AB g).length=(eJ g).length):∀r∈eC g dI,0<r.length∧0≤r.getD 0 0∧(r.getD 0 0).toNat<(AB g).length∧r.length≤1000:=by intro r j;obtain⟨i,l,rfl⟩:=List.mem_map.1 j;have:=qg g;simp at l;simp[qh,dI];omega
theorem pF (g:bZ) (nm bl:Nat→Int):Rw.ff (kG g nm bl)=true:=by
 have o:∀ {α:Type} (f:Nat→α→List Int) (l:List α) (n:Nat),(∀i x,(f i x).length=n)→(l.mapIdx f).all (fun row=>decide (row.length=n))=true:=by intro α f l n h;rw[List.all_eq_true];intro r j;obtain⟨i,w,rfl⟩:=iP j;simp[h]
 have y:((du g).flatten).all (fun row=>decide (row.length=2))=true:=by rw[List.all_eq_true];intro r j;obtain⟨l,hl,j⟩:=List.mem_flatten.1 j;obtain⟨i,w,rfl⟩:=iP hl;obtain⟨x,_,rfl⟩:=List.mem_map.1 j;rfl
 have h0:=o (ru g nm) g.ts 5 (fun _ _ =>rfl);have h1:=o (uR g nm bl) g.fs 3 (fun _ _ =>rfl);have A:=o (sk g nm bl) (g.ms.zip (dM od g.ms).2) 6 (fun _ _ =>rfl);have k0:(bF ((0:Nat):Int)).length=5:=rfl;have k1:(bF ((1:Nat):Int)).length=3:=rfl;have v:(bF ((2:Nat):Int)).length=6:=rfl;have u:(bF ((3:Nat):Int)).length=2:=rfl;have k4:(bF ((4:Nat):Int)).length=1:=rfl;have q:(bF ((5:Nat):Int)).length=1:=rfl;simp only[Rw.ff,kG,Rw.iy,cI,cF,cK,k0,k1,v,u,k4,q,h0,h1,A,y,Bool.true_and,Bool.and_true,Nat.zero_add,Nat.reduceAdd];simp[dN,eC,qh]
theorem vU {g:bZ}(h:rW g) (nm bl:Nat→Int):∀y∈kG g nm bl,y.length≤20000:=by
 have o:=h.ts;have u:=h.fs;have q:=h.ms;have i:=uf h g.ts.length;rw[List.take_of_length_le (by simp[du])]at i;have l:(dJ g).sp.length≤20000:=by have:=h.sp g.ms.length;rwa [List.take_length]at this
 have n:(dJ g).lo.length≤64:=by have:=h.lo g.ms.length;rwa [List.take_length]at this
 intro y j;simp only[kG,List.mem_cons,List.not_mem_nil,or_false]at j;rcases j with rfl|rfl|rfl|rfl|rfl|rfl
 ·simp[cI];omega
 ·simp[cF];omega
 ·simp[cK,dT];omega
 ·omega
 ·simp[dN];omega
 ·simp[eC];omega
theorem yU:∀ {L:List (List (List Int))}{t:Nat},Rw.iy t L=true→ ∀y∈L,∀r∈y,r.length≤6
 |[],_,_,y,i=>by cases i
 |x::l,t,h,y,i=>by
  simp only[Rw.iy,Bool.and_eq_true]at h;rcases List.mem_cons.1 i with rfl|i
  ·intro r j;have:=List.all_eq_true.1 h.1 r j;have n:=Rw.qJ (t:Int);simp at this;omega
  ·exact yU h.2 y i
theorem H9 (g:bZ) (nm bl:Nat→Int):∀y∈kG g nm bl,∀r∈y,r.length≤1000:=fun y i r j=>by have h:=pF g nm bl;simp only[Rw.ff,Bool.and_eq_true]at h;have:=yU h.2 y i r j;omega
theorem EY:∀(i:By) (r:List Int),(Rw.qY i r).length≤4*i.length
 |[],r=>by cases r<;>simp[Rw.qY]
 |k::i,[]=>by simp[Rw.qY]
 |k::i,x::r=>by have:=EY i r;have hw:=Rw.A7 k 0;simp only[Rw.qY,List.length_append,ax,List.length_cons];rcases hw with h|h<;>rw[h]<;>simp<;>omega
theorem EH (t:Nat):∀(l:List (List Int)),(Rw.pz t l).length≤24*l.length
 |[]=>by simp[Rw.pz]
 |r::l=>by have h1:=EH t l;have i:=EY (bF t) r;have h:=Rw.qJ (t:Int);simp only[Rw.pz,List.flatMap_cons,List.length_append,List.length_cons]at h1⊢;omega
theorem Cz:∀(L:List (List (List Int))) (t:Nat),(∀l∈L,l.length≤20000)→(Rw.iE t L).length≤480000*L.length
 |[],t,_ =>by simp[Rw.iE]
 |l::L,t,h=>by have h1:=Cz L (t+1) fun x i=>h x (by simp[i]);have n:=EH t l;have j:=h l (by simp);simp only[Rw.iE,List.length_append,List.length_cons];omega
theorem FM:∀(L:List (List (List Int))),(Rw.kP L).length≤2*L.length
 |[]=>by simp[Rw.kP]
 |l::L=>by
  have h1:=FM L;have h:(Rw.sK l).length≤2:=by unfold Rw.sK;split<;>simp[ax]
  simp only[Rw.kP,List.flatMap_cons,List.length_append,List.length_cons]at h1⊢;omega
theorem F6 {L:List (List (List Int))}(en:Int) (h:∀l∈L,l.length≤20000) (i:L.length=6):(Rw.dr L en).length≤10000000:=by have h1:=Cz L 0 h;have j:=FM L;simp only[Rw.dr,List.length_append,ax,List.length_cons,List.length_nil];omega
theorem MM (l:List (By)) (nl:Bool) (j:cL) (hl:l.length≤100000) (n:∀s∈l,s.length≤300) (σ:AS):
 aa prog 30 [.an 30 (l.map bL) j nl] σ (ao (Pl.Pu l) σ) No:=by
 have h:=Pl.Ht (l.map fun b=>(b,decide (b= []))) nl j (by simpa using hl) (fun s i=>by obtain⟨b,o,rfl⟩:=List.mem_map.1 i;exact n b o) σ;rw[List.map_map,List.map_map]at h;have u:(Pl.bV∘fun b=>(b,decide (b= [])))=bL:=rfl;have q:((fun x:By×Bool=>x.1)∘fun b=>(b,decide (b= [])))=id:=rfl;rw[u,q,List.map_id]at h;exact h
theorem EV (g:bZ) (hL:KW g) (hO:DY g=true→rW g) (c6:DY g=true→ ∀b∈eJ g,b.length≤300) (σ:AS):aa prog 12 [pD g] σ (ao (xU g) σ) No:=by
 have Z:=fun σ=>uc g hL σ;cases hF:DY g with
 |false=>
  rw[hF]at Z;have hS:cQ g=([],17):=by unfold cQ;rw[if_pos hF]
  simp only[b9]at Z⊢;refine aa.ob func12 ?_;refine gO bf tI tI ?_;intro M Q;refine gO bf tI @Z ?_;exact⟨nJ (by decide) hS,AS.ah (lR _) Q⟩
 |true=>
 rw[hF]at Z;have I:=hO hF;have c7:=c6 hF;simp only[b9]at Z⊢;refine aa.ob func12 ?_;refine gO bf tI tI ?_;intro M Q;refine gO (S:= [3]) bf tI @Z ?_;refine Sg.xk (α:=Nat×Nat) (fun v=>v.1≠M∧σ v.1=none∧v.2≠v.1∧v.2≠M∧σ v.2=none) (fun v=> [(1,.ptr M 0),(4,.ptr v.2 0)]) (fun v=>((σ.set M (.cells 26 [.an 46 (g.ts.map kE) .aE g.tn,.an 56 (g.fs.map ny) .aE g.fn,.an 53 (g.ms.map jK) .aE g.mn,.sc (.int .i64 g.entry)])).set v.1 (.cells 94 (jv 6 .ai))).set v.2 (.cells 74 [.an 46 (g.ts.map kE) .aE g.tn,.an 56 (g.fs.map ny) .aE g.fn,.an 53 (g.ms.map jK) .aE g.mn,.sc (.int .i64 g.entry),
  .ai,.sc .nilFunc,.ai,.sc .nilFunc,.ai,.ai,.ai,.sc (.int .i64 0),.fT v.1 0 6 6])) ?_ ?_
 ·(((with_reducible apply ae.aR (id:=3) (t:=oq));(exact mixed);kernel_rfl;kernel_rfl;(repeat (with_reducible first|apply ak.then|apply ak.block|apply ak.body|apply ak.no)));simp-implicitDefEqProofs)
  constructor
  ·intro bq n1 h1 aT n2 O h2;refine fV.mk ((bq,aT)) (gF tI) (by(try dsimp only);exact lR _) ?_;try dsimp only
   exact⟨n1,h1,n2,O,h2⟩
  ·intro bq n1 h1;have b0:=aA n1;simp-implicitDefEqProofs [b0];intro aT n2 O h2;refine fV.mk ((bq,aT)) (gF tI) (by(try dsimp only);exact lR _) ?_;try dsimp only
   exact⟨n1,h1,n2,O,h2⟩
 rintro⟨bq,aT⟩ ⟨n1,h1,n2,O,h2⟩;simp only at n1 h1 n2 O h2⊢;have b0:=aA n1;have ar:=aA n2;have ec:=aA O;refine gO (S:= [6]) bf tI tI ?_;refine ae.Ji aT (ty:=74) QG (cs:=R1 g bq) (by simp[R1]) (by simp[QG,R1]) (by simp[QG]) ?_;intro eb σ1 l1 m1 f1 c1 t1 o1;have em:∀ {σ':AS},σ' bq=some (.cells 94 (jv 6 .ai))→σ' bq≠none:=fun h=>by rw[h];simp
 have b3:σ1 bq=some (.cells 94 (jv 6 .ai)):=by rw[o1 bq ar (fun h=>by have:=f1 _ h;simp[ar]at this)];simp[ar]
 refine ae.Ji bq (ty:=94) SA (cs:=jv 6 .ai) b3 (by simp[SA,jv]) (by simp[SA]) ?_;intro d3 σ2 l2 m2 f2 c2 t2 o2;obtain⟨k,T,rfl,de,hT⟩:=SI.init (g:=g) (B:=σ.set M (.cells 26 [.an 46 (g.ts.map kE) .aE g.tn,.an 56 (g.fs.map ny) .aE g.fn,.an 53 (g.ms.map jK) .aE g.mn,.sc (.int .i64 g.entry)])) (by simp[O,h2]) (by simp[n1,h1]) n2
  (fun j j1 j2=>by simp[AS.set,j1,j2]) (by simp) (by simp[ar]) l1 m1 f1 c1 t1 o1 l2 m2 f2 c2 t2 o2
 clear o1 o2 c1 c2 t1 t2 f1 f2 b3;have V:AS.le σ (σ.set M (.cells 26 [.an 46 (g.ts.map kE) .aE g.tn,.an 56 (g.fs.map ny) .aE g.fn,.an 53 (g.ms.map jK) .aE g.mn,.sc (.int .i64 g.entry)])):=AS.ah (lR _) Q;generalize (σ.set M (.cells 26 [.an 46 (g.ts.map kE) .aE g.tn,.an 56 (g.fs.map ny) .aE g.fn,.an 53 (g.ms.map jK) .aE g.mn,.sc (.int .i64 g.entry)]))=A at*;refine gO bf tI tI ?_;refine ag.of (SI.all I ⟨T,by simpa using de,by simpa using hT⟩) ?_ (fun _ _ h=>h.elim);rintro r τ3 ⟨rfl,T',τ0,h3,c9,rfl⟩;have hJ:SJ k g (De g) T' A (g.entry+1) (τ0.set k.aT (.cells 74 (vZ k g (De g) (g.entry+1)))):=⟨τ0,h3,rfl⟩;generalize (τ0.set k.aT (.cells 74 (vZ k g (De g) (g.entry+1))))=τ3 at*;clear h3;have Y:=hJ.aT;simp only[eE]at Y;have eo:=I.ts;have es:=I.fs;have er:=I.ms;have c4:(De g).nm=nX g:=rfl;have cb:(De g).bl=eJ g:=rfl;rw[c4,cb]at Y;have e2:=vA g;have d5:(dJ g).sp.length≤20000:=by have:=I.sp g.ms.length;rwa [List.take_length]at this
 have d6:(dJ g).lo.length≤64:=by have:=I.lo g.ms.length;rwa [List.take_length]at this
 have e3:=qg g;have J:=fun σ=>Pl.GJ (nX g) (decide (nX g= [])) (.tok k.tN) (by omega) (OO hL) σ;have K:=fun σ=>MM (eJ g) (decide (eJ g= [])) (.tok k.tB) (by omega) c7 σ;simp only[Pl.Pu]at K;simp-implicitDefEqProofs;by_cases w:(bX (nX g)).2.2=0
 ·by_cases L:(cg (eJ g)).2.2=0
  ·have hz:True:=trivial;have ap:(Ej g).length=(nX g).length:=by
    unfold Ej bX at*;split at w
    ·simp at w
    ·rename_i c1;rw[if_neg c1];split at w
     ·simp at w
     ·rename_i c2;rw[if_neg c2];simp[Pl.zT]
   have U:(AB g).length=(eJ g).length:=by
    unfold AB cg at*;split at L
    ·simp at L
    ·rename_i c2;rw[if_neg c2];simp[Pl.Av]
   have cd:(bX (nX g)).2.1=Ej g:=rfl;have ce:(cg (eJ g)).2.1=AB g:=rfl;rw[cd]at J;rw[ce]at K;refine gO bf (j3 @Y @w @L) (j2 @J @K) ?_;refine ae.bp (α:=(Nat)×(AS)) ((0,τ3)) (fun⟨i,τ4⟩=>3-i) (fun⟨i,τ4⟩=>i≤3∧ ∃T',SJ k g (De g) T' A (g.entry+1) τ4∧cJ T'=SB g i) [(2,?_),(3,?_),(4,?_),(5,?_),(6,?_),(7,?_),(8,?_),(9,?_),(60,?_)] (fun⟨i,τ4⟩=> [(61,.sc (.int .i64 i))]) (fun⟨i,τ4⟩=>τ4) ?_ ?_ ?_ ?_;rotate_left 9
   ·exact gF tI
   ·(try dsimp only);exact lR _
   ·exact⟨by omega,T',hJ,c9⟩
   intro x_ af;obtain⟨i,τ4⟩:=x_;try dsimp only at af⊢
   obtain⟨hi,T4,o,u⟩:=af;simp only[gj];by_cases a6:i<3
   ·have bv:IntKind.i64.wrap ((i:Int)+1)=((i+1:Nat):Int):=cv (by omega);have h0:i=0∨i=1∨i=2:=by omega
    rcases h0 with rfl|rfl|rfl
    ·refine gO bf tI tI ?_;intro H l;have D:=o.own (b:= .cells 78 [.sc (.int .i64 0),.sc (.int .i64 1)]) l;have F:=o.mP l;have n:=fun np=>D.step (t:=0) (c:=1) (P:=Ej g) (op:= .aE) (np:=np) (X:=cI g dI) (by rw[u];rfl) (by simp[cI];omega) (by omega) (Wx ap);simp only[Int.cast_ofNat_Int]at n;refine gO bf tI tI ?_;refine ag.of (n _) ?_ (fun _ _ h=>h.elim);rintro r G ⟨rfl,T5,E,y⟩;simp-implicitDefEqProofs;refine gO bf tI tI ?_;refine aP.mk ((1,G)) (by(try dsimp only);omega) (gF tI) (by(try dsimp only);exact lR _) ?_;try dsimp only
     refine⟨by omega,T5,E.drop (AS.ah (lR _) F),?_⟩;rw[y,u];simp[SB,Q9]
    ·refine gO bf tI tI ?_;intro H l;have D:=o.own (b:= .cells 78 [.sc (.int .i64 1),.sc (.int .i64 1)]) l;have F:=o.mP l;have n:=fun np=>D.step (t:=1) (c:=1) (P:=Ej g) (op:= .aE) (np:=np) (X:=cF g dI dI) (by rw[u];rfl) (by simp[cF];omega) (by omega) (Ww ap);simp only[Int.cast_ofNat_Int]at n;refine gO bf tI tI ?_;refine ag.of (n _) ?_ (fun _ _ h=>h.elim);rintro r G ⟨rfl,T5,E,y⟩;simp-implicitDefEqProofs;refine gO bf tI tI ?_;refine aP.mk ((2,G)) (by(try dsimp only);omega) (gF tI) (by(try dsimp only);exact lR _) ?_;try dsimp only
     refine⟨by omega,T5,E.drop (AS.ah (lR _) F),?_⟩;rw[y,u];simp[SB,Oy]
    ·refine gO bf tI tI ?_;intro H l;have D:=o.own (b:= .cells 78 [.sc (.int .i64 2),.sc (.int .i64 3)]) l;have F:=o.mP l;have n:=fun np=>D.step (t:=2) (c:=3) (P:=Ej g) (op:= .aE) (np:=np) (X:=cK g dI dI) (by rw[u];rfl) (by simp[cK,dT];omega) (by omega) (Wv ap);simp only[Int.cast_ofNat_Int]at n;refine gO bf tI tI ?_;refine ag.of (n _) ?_ (fun _ _ h=>h.elim);rintro r G ⟨rfl,T5,E,y⟩;simp-implicitDefEqProofs;refine gO bf tI tI ?_;refine aP.mk ((3,G)) (by(try dsimp only);omega) (gF tI) (by(try dsimp only);exact lR _) ?_;try dsimp only
     refine⟨by omega,T5,E.drop (AS.ah (lR _) F),?_⟩;rw[y,u];simp[SB,Ow]
   obtain rfl:i=3:=by omega
   clear Y hJ a6 hi;refine gO bf tI tI ?_;refine ae.bp (α:=(Nat)×(AS)) ((0,τ4)) (fun⟨i,G⟩=>4-i) (fun⟨i,G⟩=>i≤4∧ ∃T',SJ k g (De g) T' A (g.entry+1) G∧cJ T'=PM g i) [(2,?_),(3,?_),(4,?_),(5,?_),(7,?_),(8,?_),(9,?_),(76,?_)] (fun⟨i,G⟩=> [(77,.sc (.int .i64 i))]) (fun⟨i,G⟩=>G) ?_ ?_ ?_ ?_;rotate_left 8
   ·exact gF tI
   ·(try dsimp only);exact lR _
   ·exact⟨by omega,T4,o,u⟩
   intro x_ af;obtain⟨i,G⟩:=x_;try dsimp only at af⊢
   obtain⟨hi,T4,o,u⟩:=af;simp only[gj];by_cases a6:i<4
   ·have bv:IntKind.i64.wrap ((i:Int)+1)=((i+1:Nat):Int):=cv (by omega);have h0:i=0∨i=1∨i=2∨i=3:=by omega
    rcases h0 with rfl|rfl|rfl|rfl
    ·refine gO bf tI tI ?_;intro H l;have D:=o.own (b:= .cells 78 [.sc (.int .i64 1),.sc (.int .i64 2)]) l;have F:=o.mP l;have n:=fun np=>D.step (t:=1) (c:=2) (P:=AB g) (op:= .aE) (np:=np) (X:=cF g (nC g) dI) (by rw[u];rfl) (by simp[cF];omega) (by omega) (Wu U);simp only[Int.cast_ofNat_Int]at n;refine gO bf tI tI ?_;refine ag.of (n _) ?_ (fun _ _ h=>h.elim);rintro r G ⟨rfl,T5,E,y⟩;simp-implicitDefEqProofs;refine gO bf tI tI ?_;refine aP.mk ((1,G)) (by(try dsimp only);omega) (gF tI) (by(try dsimp only);exact lR _) ?_;try dsimp only
     refine⟨by omega,T5,E.drop (AS.ah (lR _) F),?_⟩;rw[y,u];simp[PM,Ox]
    ·refine gO bf tI tI ?_;intro H l;have D:=o.own (b:= .cells 78 [.sc (.int .i64 2),.sc (.int .i64 4)]) l;have F:=o.mP l;have n:=fun np=>D.step (t:=2) (c:=4) (P:=AB g) (op:= .aE) (np:=np) (X:=cK g (nC g) dI) (by rw[u];rfl) (by simp[cK,dT];omega) (by omega) (Wt U);simp only[Int.cast_ofNat_Int]at n;refine gO bf tI tI ?_;refine ag.of (n _) ?_ (fun _ _ h=>h.elim);rintro r G ⟨rfl,T5,E,y⟩;simp-implicitDefEqProofs;refine gO bf tI tI ?_;refine aP.mk ((2,G)) (by(try dsimp only);omega) (gF tI) (by(try dsimp only);exact lR _) ?_;try dsimp only
     refine⟨by omega,T5,E.drop (AS.ah (lR _) F),?_⟩;rw[y,u];simp[PM,Ov]
    ·refine gO bf tI tI ?_;intro H l;have D:=o.own (b:= .cells 78 [.sc (.int .i64 4),.sc (.int .i64 0)]) l;have F:=o.mP l;have n:=fun np=>D.step (t:=4) (c:=0) (P:=AB g) (op:= .aE) (np:=np) (X:=dN g dI) (by rw[u];rfl) (by simp[dN];omega) (by omega) (Ws U);simp only[Int.cast_ofNat_Int]at n;refine gO bf tI tI ?_;refine ag.of (n _) ?_ (fun _ _ h=>h.elim);rintro r G ⟨rfl,T5,E,y⟩;simp-implicitDefEqProofs;refine gO bf tI tI ?_;refine aP.mk ((3,G)) (by(try dsimp only);omega) (gF tI) (by(try dsimp only);exact lR _) ?_;try dsimp only
     refine⟨by omega,T5,E.drop (AS.ah (lR _) F),?_⟩;rw[y,u];simp[PM,Ra]
    ·refine gO bf tI tI ?_;intro H l;have D:=o.own (b:= .cells 78 [.sc (.int .i64 5),.sc (.int .i64 0)]) l;have F:=o.mP l;have n:=fun np=>D.step (t:=5) (c:=0) (P:=AB g) (op:= .aE) (np:=np) (X:=eC g dI) (by rw[u];rfl) (by simp[eC];omega) (by omega) (Wr U);simp only[Int.cast_ofNat_Int]at n;refine gO bf tI tI ?_;refine ag.of (n _) ?_ (fun _ _ h=>h.elim);rintro r G ⟨rfl,T5,E,y⟩;simp-implicitDefEqProofs;refine gO bf tI tI ?_;refine aP.mk ((4,G)) (by(try dsimp only);omega) (gF tI) (by(try dsimp only);exact lR _) ?_;try dsimp only
     refine⟨by omega,T5,E.drop (AS.ah (lR _) F),?_⟩;rw[y,u];simp[PM,Rb]
   obtain rfl:i=4:=by omega
   have b2:=o.aT;simp only[eE]at b2;clear a6 hi;have av:cJ T4=kG g (nC g) (nY g):=by rw[u];simp[PM,kG]
   have b1:=o.write (by rw[av];exact vU I _ _) (by rw[av];exact H9 _ _ _) (by rw[av];exact pF _ _ _);rw[av]at b1;have a8:A k.aT=none:=by obtain⟨τ9,h9,_⟩:=o;exact(h9.NA).1
   refine gO bf @b2 tI ?_;refine ag.of b1 ?_ (fun _ _ h=>h.elim);intro r τ6 hW;rcases hW with⟨al,tw,a4,rfl,rfl⟩|⟨al,rfl,rfl⟩
   ·have a7:cQ g=uK (Rw.dr (kG g (nC g) (nY g)) (g.entry+1)) (bX (nX g)).1 (cg (eJ g)).1 (dJ g).co:=by unfold cQ;rw[if_neg (by simp[hF]),if_neg (by simp[w]),if_neg (by simp[L]),if_neg (by simp[al])]
    have ca:(De g).co=(dJ g).co:=rfl;have a5:((A.set k.aT (.cells 74 (vZ k g (De g) (g.entry+1)))).set tw (.tok (Rw.dr (kG g (nC g) (nY g)) (g.entry+1)).length)) k.aT=some (.cells 74 (vZ k g (De g) (g.entry+1))):=by rw[AS.ad _ _ (by rintro e;rw[←e]at a4;simp at a4),AS.aj]
    have ci:A tw=none:=by
     by_cases e:tw=k.aT
     ·rw[e];exact a8
     ·rwa [AS.ad _ _ e]at a4
    have am:AS.le σ ((A.set k.aT (.cells 74 (vZ k g (De g) (g.entry+1)))).set tw (.tok (Rw.dr (kG g (nC g) (nY g)) (g.entry+1)).length)):=AS.le_trans V (AS.ah (AS.ah (lR _) a8) ci);generalize ((A.set k.aT (.cells 74 (vZ k g (De g) (g.entry+1)))).set tw (.tok (Rw.dr (kG g (nC g) (nY g)) (g.entry+1)).length))=S at*;have c8:(Rw.dr (kG g (nC g) (nY g)) (g.entry+1)).length≤140737488355328:=by have:=F6 (g.entry+1) (vU I (nC g) (nY g)) rfl;omega
    have d7:=GL w;have d8:=Hu L;generalize Rw.dr (kG g (nC g) (nY g)) (g.entry+1)=W at*;simp only[eE,ca]at a5;have et:(dJ g).co.length≤100000000:=by have:=I.co g.ms.length;rwa [List.take_length]at this
    have b6:=fun n1 n2 O hL hb=>St.JA (W,false) ((bX (nX g)).1,n1) ((cg (eJ g)).1,n2) ((dJ g).co,O) (.tok tw) .aE .aE (.tok k.tC) hL hb S;have b5:=fun n1 n2 O hL=>St.Jz (W,false) ((bX (nX g)).1,n1) ((cg (eJ g)).1,n2) ((dJ g).co,O) (.tok tw) .aE .aE (.tok k.tC) hL S;generalize (bX (nX g)).1=N at*;generalize (cg (eJ g)).1=BB at*;generalize (dJ g).co=CO at*;simp only[St.QH,St.sO]at b6 b5;simp-implicitDefEqProofs;by_cases q:65536<W.length∨65536<N.length∨65536<BB.length∨65536<CO.length
    ·have hS:cQ g=([],4):=by rw[a7,uK];exact if_pos (by rcases q with h|h|h|h<;>simp[h])
     repeat (first
      |(with_reducible first|apply ae.seq|apply ae.block|refine j2 (by first|omega|assumption|decide) ?_)
      |((first|(with_reducible first|apply ae.fork|apply ae.region|show aN _ _ _ |show aB _ _ _ _ _ _ _ _ _)|((with_reducible apply ae.aR (id:=3) (t:=oq));(exact mixed);kernel_rfl;kernel_rfl;(repeat (with_reducible first|apply ak.then|apply ak.block|apply ak.body|apply ak.no)))|((with_reducible apply ag.id);first|apply ag.aC (b6 _ _ _ ⟨c8,by show N.length≤ _;omega,by show BB.length≤ _;omega,by show CO.length≤ _;omega⟩ q)));simp-implicitDefEqProofs [a5])
      |((with_reducible first|apply ae.ret|apply ae.skip|apply ae.exit);try simp-implicitDefEqProofs))
     exact⟨nJ (by decide) hS,am⟩
    ·refine gO bf @a5 tI ?_;have b4:∀n1 n2 O k,(St.jc (W,false) (N,n1) (BB,n2) (CO,O) k).1=St.jc W N BB CO k:=fun n1 n2 O k=>St.Ja Prod.fst (W,false) (N,n1) (BB,n2) (CO,O) k;refine ag.of (b5 _ _ _ ?_) ?_ (fun _ _ h=>h.elim)
     ·intro j;rw[b4];simp only[not_or,Nat.not_lt]at q;unfold St.jc;split
      ·exact q.1
      ·exact q.2.1
      ·exact q.2.2.1
      ·exact q.2.2.2
     ·simp only[b4];intro r σ' dl;rcases dl with⟨hb,rfl,rfl⟩|⟨hb,tk,c3,rfl,rfl⟩
      ·have hS:cQ g=([],4):=by rw[a7,uK];exact if_pos (.inr (.inr (.inr (.inr hb))))
       simp-implicitDefEqProofs;refine gO bf tI tI ?_;exact⟨nJ (by decide) hS,am⟩
      ·have hS:cQ g=(St.jo (fun k=>St.jc W N BB CO k),0):=by rw[a7,uK];exact if_neg (by simp only[not_or]at q⊢;exact⟨q.1,q.2.1,q.2.2.1,q.2.2.2,hb⟩)
       simp-implicitDefEqProofs;refine gO bf tI tI ?_;unfold xU;rw[hS];exact⟨cq (by simp) (by simp),AS.le_trans am (AS.ah (lR _) c3)⟩
   ·have hS:cQ g=([],4):=by unfold cQ;rw[if_neg (by simp[hF]),if_neg (by simp[w]),if_neg (by simp[L]),if_pos al]
    simp-implicitDefEqProofs;refine gO bf tI tI ?_;exact⟨nJ (by decide) hS,AS.le_trans V (AS.ah (lR _) a8)⟩
  ·have hS:cQ g=([],(cg (eJ g)).2.2):=by unfold cQ;rw[if_neg (by simp[hF]),if_neg (by simp[w]),if_pos L]
   refine gO bf (j3 @Y @w @L) (j2 @J @K) ?_;exact⟨nJ L hS,AS.le_trans V hJ.le⟩
 ·have hS:cQ g=([],(bX (nX g)).2.2):=by unfold cQ;rw[if_neg (by simp[hF]),if_pos w]
  refine gO bf (j2 @Y @w) @J ?_;exact⟨nJ w hS,AS.le_trans V hJ.le⟩
end Im
end Go.Proofs.YtknalmoackcpbaaGreat
namespace Go.Proofs.YtknalmoackcpbaaGreat
namespace Rw
open Go Go.AW Tryz
theorem fy (S:List Nat):aH prog [] S:=mixed
def D4 (a e:Int):AV:= .rX 174 (.agg [.sc (.int .i64 a),.sc (.int .i64 e)])
def dQ (id:Nat) (size marks:Int):bN:= .cells 178 [.ptr id 0,.sc (.int .i64 size),.sc (.int .i64 marks)]
def KK (b:By) (nl:Bool) (id:Nat) (x:Int×Int) (σ:AS) (p:AV) (σ':AS):Prop:=p=D4 x.1 x.2∧ ∃a:Int,σ'=σ.set id (bC b a nl)
theorem ag.Da {f:FuncId}{args:List AV}{b:By}{nl:Bool}{id:Nat}{x:Int×Int}{i σ:AS}{K j:AV→AS→Prop}(h:aa prog f args i No (KK b nl id x σ)) (l:∀a:Int,j (D4 x.1 x.2) (σ.set id (bC b a nl))):ag prog (.sc (.func (.func f) #[] #[])) args i K j:=
 .of h (fun _ _ h=>h.elim) (fun r σ' h=>by obtain⟨rfl,a,rfl⟩:=h;exact l a)
theorem Gi {σ:AS}{i:Nat}{x:bN}(h:σ i=some x):σ.set i x=σ:=by
 funext j;by_cases e:j=i
 ·subst e;simp[AS.set,h]
 ·simp[AS.set,e]
def gh (b:By) (a n:Nat):Except (Int×Int) (Int×Nat):=if a+n≤b.length then .ok (bj (cy b a n),a+n)else .error ((b.length:Int),1)
def fm (b:By) (a:Nat) (most:Int):Except (Int×Int) (Int×Nat):=
 match gh b a 1 with
 |.error e=> .error e
 |.ok (v,h)=>if most<v then .error ((a:Int),2)else .ok (v,h)
theorem fL {b:By}{a n:Nat}{v:Int}{i:Nat}(h:gh b a n= .ok (v,i)):a+n≤b.length∧v=bj (cy b a n)∧i=a+n:=by
 unfold gh at h;split at h
 ·cases h;exact⟨by assumption,rfl,rfl⟩
 ·cases h
theorem Bw {b:By}{a n:Nat}{e:Int×Int}(h:gh b a n= .error e):¬a+n≤b.length∧e=((b.length:Int),1):=by
 unfold gh at h;split at h
 ·cases h
 ·cases h;exact⟨by assumption,rfl⟩
theorem Bk {b:By}{a n:Nat}(h:a+n≤b.length) (l:n≤4):0≤bj (cy b a n)∧bj (cy b a n)<4294967296:=by
 refine⟨cu _,?_⟩;have h1:=jk (cy b a n);have j:(cy b a n).length=n:=by have:=eQ b a n (by omega) (by omega) (by omega);omega
 rw[j]at h1;generalize bj (cy b a n)=z at h1⊢;have i:n=0∨n=1∨n=2∨n=3∨n=4:=by omega
 rcases i with rfl|rfl|rfl|rfl|rfl<;>simp at h1<;>omega
theorem lj (bq id:Nat) (mk:Int) (b:By) (a n:Nat) (nl:Bool) (σ:AS) (j:σ bq=some (dQ id b.length mk)) (h:σ id=some (bC b a nl)) (hl:b.length≤140737488355328) (hw:wide n=true) (q:n≤4) (v:Int) (l:Nat) (he:gh b a n= .ok (v,l)):
 aa prog 159 [.ptr bq 0,.sc (.int .i64 n)] σ (ao (.sc (.int .i64 v)) (σ.set id (bC b l nl))) No:=by
 obtain⟨h1,rfl,rfl⟩:=fL he;have u:=Bk h1 q;have i:IntKind.i64.wrap (bj (cy b a n))=bj (cy b a n):=ay (by omega) (by omega);have o:=mc id b a n nl σ h (by omega) (by omega) hl hw (by omega);simp only[dQ]at j;refine aa.ob func159 ?_;exact gE fy (j2 @j @i) @o
theorem rY (bq id:Nat) (mk:Int) (b:By) (a n:Nat) (nl:Bool) (σ:AS) (i:σ bq=some (dQ id b.length mk)) (h:σ id=some (bC b a nl)) (ha:a≤b.length) (hl:b.length≤140737488355328) (hw:wide n=true) (e:Int×Int) (he:gh b a n= .error e):
 aa prog 159 [.ptr bq 0,.sc (.int .i64 n)] σ No (KK b nl id e σ):=by
 obtain⟨h1,rfl⟩:=Bw he;have l:tJ b a n=1:=by simp[tJ,hw];omega
 have j:=vz id b a n nl σ h (by omega) (by omega) hl (by omega);rw[l]at j;simp only[dQ]at i;refine aa.ob func159 ?_;refine gO fy @i @j ?_;exact⟨σ,lR _,rfl,a,(Gi h).symm⟩
theorem nK {b:By}{a:Nat}{most v:Int}{j:Nat}(h:fm b a most= .ok (v,j)):gh b a 1= .ok (v,j)∧v≤most:=by
 unfold fm at h;cases i:gh b a 1 with
 |error e=>rw[i]at h;simp at h
 |ok x=>
  obtain⟨l,n⟩:=x;rw[i]at h;simp only at h;split at h
  ·cases h
  ·cases h;exact⟨rfl,by omega⟩
theorem wB {b:By}{a:Nat}{most:Int}{e:Int×Int}(h:fm b a most= .error e):gh b a 1= .error e∨(e=((a:Int),2)∧ ∃v n,gh b a 1= .ok (v,n)∧most<v):=by
 unfold fm at h;cases i:gh b a 1 with
 |error o=>rw[i]at h;simp at h;subst h;exact .inl rfl
 |ok x=>
  obtain⟨j,l⟩:=x;rw[i]at h;simp only at h;split at h
  ·cases h;exact .inr ⟨rfl,j,l,rfl,by assumption⟩
  ·cases h
theorem yp (bq id:Nat) (mk:Int) (b:By) (a:Nat) (nl:Bool) (σ:AS) (i:σ bq=some (dQ id b.length mk)) (h:σ id=some (bC b a nl)) (hl:b.length≤140737488355328) (most v:Int) (n:Nat) (he:fm b a most= .ok (v,n)):
 aa prog 158 [.ptr bq 0,.sc (.int .i64 most)] σ (ao (.sc (.int .i64 v)) (σ.set id (bC b n nl))) No:=by
 obtain⟨h1,q⟩:=nK he;have o:=lj bq id mk b a 1 nl σ i h hl rfl (by omega) v n h1;have j:=px id b a nl σ h;have l:¬most<v:=by omega
 simp only[dQ]at i;refine aa.ob func158 ?_;exact gE fy (j2 @i @l) (j2 @j @o)
theorem vP (bq id:Nat) (mk:Int) (b:By) (a:Nat) (nl:Bool) (σ:AS) (i:σ bq=some (dQ id b.length mk)) (h:σ id=some (bC b a nl)) (ha:a≤b.length) (hl:b.length≤140737488355328) (most:Int) (e:Int×Int) (he:fm b a most= .error e):
 aa prog 158 [.ptr bq 0,.sc (.int .i64 most)] σ No (KK b nl id e σ):=by
 have j:=px id b a nl σ h;rcases wB he with he|⟨rfl,v,o,he,n⟩
 ·have l:=rY bq id mk b a 1 nl σ i h ha hl rfl e he;simp only[dQ]at i;refine aa.ob func158 ?_;refine gO fy @i @j ?_;refine ag.Da l ?_;intro x;simp-implicitDefEqProofs;exact⟨_,lR _,rfl,x,rfl⟩
 ·have l:=lj bq id mk b a 1 nl σ i h hl rfl (by omega) v o he;simp only[dQ]at i;refine aa.ob func158 ?_;refine gO fy (j2 @i @n) (j2 @j @l) ?_;exact⟨_,lR _,rfl,_,rfl⟩
def W8 {α:Type}(x:Except (Int×Int) (α×Nat)) (f:α→AV) (b:By) (nl:Bool) (id:Nat) (σ:AS) (r:AV) (σ':AS):Prop:= ∃v a,x= .ok (v,a)∧r=f v∧σ'=σ.set id (bC b (a:Nat) nl)
def W6 {α:Type}(x:Except (Int×Int) α) (b:By) (nl:Bool) (id:Nat) (σ:AS) (p:AV) (σ':AS):Prop:= ∃e,x= .error e∧KK b nl id e σ p σ'
def gG (b:By) (mk:Nat):By→Nat→Except (Int×Int) (List Int×Nat)
 |[],a=> .ok ([],a)
 |k::h,a=>match gh b a (wK k mk).toNat with
  |.error e=> .error e
  |.ok (v,j)=>match gG b mk h j with
   |.error e=> .error e
   |.ok (l,i)=> .ok (v::l,i)
def gq {α:Type}(d:List α):Except (Int×Int) (List α×Nat)→Except (Int×Int) (List α×Nat)
 |.error e=> .error e
 |.ok (l,a)=> .ok (d++l,a)
theorem IW (b:By) (mk:Nat) (d:List Int) (k:UInt8) (h:By) (a:Nat):
 gq d (gG b mk (k::h) a)=match gh b a (wK k mk).toNat with|.error e=> .error e|.ok (v,i)=>gq (d++ [v]) (gG b mk h i):=by
 simp only[gG];cases gh b a (wK k mk).toNat with
 |error e=>rfl
 |ok x=>
  obtain⟨v,i⟩:=x;simp only;cases gG b mk h i with
  |error e=>rfl
  |ok y=>obtain⟨l,j⟩:=y;simp[gq]
def r9 (l:List Int):AV:= .an 3 (l.map aV) .aE (decide (l= []))
def Wm (b:By) (nl:Bool) (mk:Nat) (h:By) (bq id it i:Nat) (X:Except (Int×Int) (List Int×Nat)) (B:AS) (m:Nat) (f:Fr) (σ':AS):Prop:=
 ∃(j a:Nat) (d:List Int),m=h.length-j∧j≤h.length∧a≤b.length∧d.length=j∧gq d (gG b mk (h.drop j) a)=X∧
  σ'=((B.set it (.lT ⟨h.toArray⟩ j)).set id (bC b a nl)).set i (.tok j)∧
  f=jJ [(0,.ptr bq 0),(5,.an 3 (d.map aV) (.tok i) (decide (d= []))),(10,.ptr it 0)]
theorem vp (bq id:Nat) (mk:Nat) (a7:mk≤3) (b:By) (a t:Nat) (nl:Bool) (σ:AS) (Q:σ bq=some (dQ id b.length mk)) (h:σ id=some (bC b a nl)) (ha:a≤b.length) (hl:b.length≤140737488355328):
 aa prog 160 [.ptr bq 0,.sc (.int .i64 t)] σ (W8 (gG b mk (bF t) a) r9 b nl id σ) (W6 (gG b mk (bF t) a) b nl id σ):=by
 have a3:=fun σ=>wX t σ;have a8:=uJ (t:Int);have b1:=qJ (t:Int);simp only[zz]at a3;generalize b0:bF (t:Int)=P at*;have J:¬bq=id:=by rintro rfl;rw[Q]at h;simp[dQ,bC]at h
 have af:=aA J;refine aa.ob func160 ?_;refine ae.seq ?_;refine gO (S:= [2]) fy tI tI ?_;refine ae.fM 5 3 [] true (by simp) (.inr ⟨by simp,rfl,rfl⟩) ?_;simp-implicitDefEqProofs;intro X K;have u:¬id=X:=nq h K;have w:=aA u;have n:¬bq=X:=nq Q K;have A:=aA n;refine gO fy tI @a3 ?_;intro it q L;have E:=aA q;have o:¬id=it:=nq h L;have y:=aA o;have i:¬bq=it:=nq Q L;have D:=aA i;refine gO fy tI tI ?_;refine ae.dx (Wm b nl mk P bq id it X (gG b mk P a) σ) (k0:=P.length) ⟨0,a,[],by omega,by omega,ha,rfl,?_,rfl,rfl⟩ (aS.mk (by simp)) ?_ ?_
 ·simp only[List.drop_zero];cases gG b mk P a with
  |error e=>rfl
  |ok x=>obtain⟨l,a2⟩:=x;rfl
 ·have O:=(j2 (j7 @h K L q E w u) (j8 @h A n @Q y o D i));intro M y_;refine gK O M it fun H=>gK O M id fun I=>gK O M X fun G=> ?_;intro F;simp[AS.set,H,I,G]at F⊢;try exact F
 rintro m f σ' ⟨j,a1,d,hm,hj,bb,hd,V,Z,rfl⟩;have gI:σ' id=some (bC b a1 nl):=by rw[Z];simp[u]
 have gR:σ' bq=some (dQ id b.length mk):=by rw[Z];simp[n,J,i,Q]
 have gT:σ' X=some (.tok d.length):=by rw[Z,hd];simp
 have gS:σ' it=some (.lT ⟨P.toArray⟩ j):=by rw[Z];simp[q,y]
 simp only[dQ]at gR;by_cases ab:j<P.length
 ·obtain⟨kd,hg,a9,ar,_⟩:=iF P ab;have Y:=y8 P j hg (a8 kd ar);have am:=fun σ=>A3 kd mk a7 σ;have ap:=A7 kd mk;rw[a9,IW]at V;have al:wK kd mk=(((wK kd mk).toNat:Nat):Int):=by omega
  have U:wide (((wK kd mk).toNat:Nat):Int)=true:=by rcases ap with e|e<;>rw[e]<;>rfl
  cases hN:gh b a1 (wK kd mk).toNat with
  |error e=>rw[hN]at V;simp only at V;have hb:=fun σ Q h=>rY bq id mk b a1 (wK kd mk).toNat nl σ Q h bb hl U e hN;rw[←al]at hb;refine gO fy (j5 @gS ab @Y @gR i) @am ?_;refine ag.Da (hb _ (by simp[i,gR,dQ]) (by simp[o,gI])) ?_;intro x;simp-implicitDefEqProofs;refine⟨σ.set id (bC b x nl),?_,e,V.symm,rfl,x,rfl⟩;rw[Z];have O:=(j2 (j7 K L q E w u @h) (j7 A n @Q y o D i));intro M y_;refine gK O M it fun H=>gK O M id fun I=>gK O M X fun G=> ?_;intro F;simp[AS.set,H,I,G]at F⊢;try exact F
  |ok v=>
   obtain⟨v,a2⟩:=v;rw[hN]at V;simp only at V;obtain⟨h1,_,h3⟩:=fL hN;have hb:=fun σ Q h=>lj bq id mk b a1 (wK kd mk).toNat nl σ Q h hl U (by omega) v a2 hN;rw[←al]at hb;refine gO fy (j2 (j7 @gS ab @Y @gR @gT w o) (j3 i @dQ.eq_1 @gI)) (j2 @am @hb) ?_;refine⟨m-1,_,_,by omega,aS.mk ?_,?_,j+1,a2,d++ [v],by omega,by omega,by omega,by simp[hd],V,rfl,rfl⟩
   ·simp[aG]
   ·rw[Z,hd];have O:=(j2 (j7 K L q E w u @h) (j7 A n @Q y o D i));intro M y_;refine gK O M it fun H=>gK O M id fun I=>gK O M X fun G=> ?_;intro F;simp[AS.set,H,I,G]at F⊢;try exact F
 ·have a0:P.drop j= []:=List.drop_eq_nil_of_le (by omega);rw[a0]at V;have bc:gG b mk P a= .ok (d,a1):=by rw[←V];simp[gG,gq]
  have av:(j<P.length)=False:=by simp;omega
  have UZ:(⟨P.toArray⟩:ByteArray).size=P.length:=by simp[ByteArray.size]
  refine gO fy (j3 @gS av @UZ) tI ?_;refine⟨r9 d,σ.set id (bC b a1 nl),by simp[r9],?_,d,a1,bc,rfl,rfl⟩;rw[Z];have O:=(j2 (j7 K L q E w u @h) (j7 A n @Q y o D i));intro M y_;refine gK O M it fun H=>gK O M id fun I=>gK O M X fun G=> ?_;intro F;simp[AS.set,H,I,G]at F⊢;try exact F
end Rw
end Go.Proofs.YtknalmoackcpbaaGreat
