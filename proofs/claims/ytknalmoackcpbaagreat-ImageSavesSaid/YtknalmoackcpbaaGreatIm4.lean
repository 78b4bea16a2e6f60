/- Chapter 10: methods; Formed. -/
import Derived.Test.YtknalmoackcpbaaGreatRows2
import Derived.Test.YtknalmoackcpbaaGreatStr1
import Derived.Test.YtknalmoackcpbaaGreatSvP
set_option maxRecDepth 100000
set_option maxHeartbeats 3200000
set_option linter.all false
open Go Go.AW
namespace Go.Proofs.YtknalmoackcpbaaGreat
namespace Im
open Tryz
open Rg (Cl jg bw vG dH dp je AR)
theorem LX (t:Ty) (n:Int) (id:Nat) (σ:AS) (h:σ id=some (.cells 3 [zI n])):
 ad prog 115 [cB t,.ptr id 0] σ (aq (.sc (.bool (!kT t n))) σ) No:=by
 have hl:=λσ=>HQ t n σ;generalize kT t n=b at hl|-;obtain⟨k,x,d,r⟩:=t;simp only[cB]at hl|-;refine ad.ob func115 ?_;refine gO aa tI tI ?_;intro o l;have j:¬id=o:=nq h l;refine gO aa (j2 @h j) @hl ?_;all_goals exact gJ tI
theorem Pf (c:Cl) (n:Int) (id:Nat) (σ:AS) (h:σ id=some (.cells 3 [zI n])):
 ad prog 123 [jg c,.ptr id 0] σ (aq (.sc (.bool (!DX c n))) σ) No:=by
 have hl:=λσ=>FD c n σ;generalize DX c n=b at hl|-;simp only[bw]at hl|-;refine ad.ob func123 ?_;refine gO aa tI tI ?_;intro o l;have j:¬id=o:=nq h l;refine gO aa (j2 @h j) @hl ?_;all_goals exact gJ tI
theorem Pg (x:dM) (m:Mt) (g:bZ) (q o:Nat) (σ:AS) (v:σ q=some (.cells 26 (lp g).cells)) (hm:σ o=some (.cells 53 (fM m).cells)):
 ad prog 120 [bJ x,.ptr q 0,.ptr o 0] σ (aq (.sc (.bool (!cS x g.ts.length g.fs.length g.ms.length m.code.length))) σ) No:=by
 have hl:=λσ=>instr_ok x g m.code.length σ;generalize cS x g.ts.length g.fs.length g.ms.length m.code.length=b at hl|-;simp only[eu,aN,aT,bq]at hl v hm|-;refine ad.ob func120 ?_;refine gO aa tI tI ?_;intro u n;have l:¬q=u:=nq v n;have j:¬o=u:=nq hm n;refine gO aa (j4 @v @hm l j) @hl ?_;all_goals exact gJ tI
def F8 (m:Mt) (nt nf nm:Int):Bool:=
 bY m.name&&(decide (0<=m.flags∧m.flags<=31∧0<=m.max∧m.max<=12∧m.ps.length<=6∧m.ls.length<=12∧m.code.length<=160)&&(y4 m.ret nt&&(m.ps.all (λt=>kT t nt)&&(m.ls.all (λt=>kT t nt)&&
  (m.code.all (λx=>cS x nt nf nm m.code.length)&&(m.cls.all (λc=>DX c nt)&&decide ((dH (dp m.code.length) je m.cls).2=0)))))))
structure Mk (m:Mt):Prop where
 name:m.name.length<=140737488355328
 ps:m.ps.length<=140737488355328
 ls:m.ls.length<=140737488355328
 code:m.code.length<=140737488355328
 cls:m.cls.length<=140737488355328
theorem E3 (m:Mt) (g:bZ) (L:Mk m) (σ:AS):ad prog 54 [fM m,lp g] σ (aq (.sc (.bool (F8 m g.ts.length g.fs.length g.ms.length))) σ) No:=by
 have u:=λσ=>tX m.name L.name σ;have F:=λσ=>FT m.ret g.ts.length σ;have D:=λσ id (h:σ id=some (.cells 3 [zI g.ts.length]))=>Sg.fh m.ps .aJ m.pn (.fn (.func 115) [] [.ptr id 0]) (λt=> !kT t g.ts.length) σ L.ps
  (λx Q=>nJ.fn (LX x g.ts.length id σ h))
 have A:=λσ id (h:σ id=some (.cells 3 [zI g.ts.length]))=>Sg.fh m.ls .aJ m.ln (.fn (.func 115) [] [.ptr id 0]) (λt=> !kT t g.ts.length) σ L.ls
  (λx Q=>nJ.fn (LX x g.ts.length id σ h))
 have J:=λσ H G (hg:σ H=some (.cells 26 (lp g).cells)) (hm:σ G=some (.cells 53 (fM m).cells))=>H5 m.code .aJ m.cn (.fn (.func 120) [] [.ptr H 0,.ptr G 0])
  (λx=> !cS x g.ts.length g.fs.length g.ms.length m.code.length) σ L.code (λx Q=>nJ.fn (Pg x m g H G σ hg hm))
 have K:=λσ id (h:σ id=some (.cells 3 [zI g.ts.length]))=>ID m.cls .aJ m.xn (.fn (.func 123) [] [.ptr id 0]) (λt=> !DX t g.ts.length) σ L.cls
  (λx Q=>nJ.fn (Pf x g.ts.length id σ h))
 have I:=λσ=>AR m.code.length m.cls .aJ m.xn L.cls σ;simp only[lD,vG]at D A J K I;unfold F8;generalize bY m.name=fb at u|-;generalize y4 m.ret g.ts.length=ab at F|-;generalize (m.ps.all λt=>kT t g.ts.length)=pb at D|-;generalize (m.ls.all λt=>kT t g.ts.length)=X at A|-;generalize (m.code.all λx=>cS x g.ts.length g.fs.length g.ms.length m.code.length)=ib at J|-;generalize (m.cls.all λc=>DX c g.ts.length)=cb at K|-;generalize dH (dp m.code.length) je m.cls=ck at I|-;obtain⟨c1,c2⟩:=ck;simp only[aT,aN,cB,bq]at u F D A J K I|-;refine ad.ob func54 ?_;refine gO aa tI tI ?_;intro id V;refine gO aa tI tI ?_;intro Z l U;refine gO aa tI tI ?_;intro Y n j S;cases fb
 .refine gO aa (j2 l j) @u ?_;all_goals exact gJ tI
 .by_cases h1:m.flags<0
  .refine gO aa (j3 l j @h1) @u ?_;all_goals exact gJ tI
  .by_cases v:31<m.flags
   .refine gO aa (j4 l j @h1 @v) @u ?_;all_goals exact gJ tI
   .by_cases w:m.max<0
    .refine gO aa (j5 l j @h1 @v @w) @u ?_;all_goals exact gJ tI
    .by_cases y:12<m.max
     .refine gO aa (j6 l j @h1 @v @w @y) @u ?_;all_goals exact gJ tI
     .by_cases P:m.ps.length<=6
      .have o:(6<(m.ps.length:Int))=False:=by simp;omega
       by_cases O:m.ls.length<=12
       .have q:(12<(m.ls.length:Int))=False:=by simp;omega
        cases ab
        .refine gO aa (j8 l j @h1 @v @w @y @o @q) (j4 @u @F @D @A) ?_;all_goals exact gJ tI
        .cases pb
         .refine gO aa (j8 l j @h1 @v @w @y @o @q) (j4 @u @F @D @A) ?_;all_goals exact gJ tI
         .cases X
          .refine gO aa (j8 l j @h1 @v @w @y @o @q) (j4 @u @F @D @A) ?_;all_goals exact gJ tI
          .by_cases M:m.code.length<=160
           .have E:(160<(m.code.length:Int))=False:=by simp;omega
            cases ib
            .refine gO aa (And.intro (j7 l j n @h1 @v @w @y) (j3 @o @q @E)) (j7 @u @F @D @A J @K @I) ?_;all_goals exact gJ (j7 @h1 @v @w @y @P @O @M)
            .cases cb
             .refine gO aa (And.intro (j7 l j n @h1 @v @w @y) (j3 @o @q @E)) (j7 @u @F @D @A J @K @I) ?_;all_goals exact gJ (j7 @h1 @v @w @y @P @O @M)
             .refine gO aa (And.intro (j7 l j n @h1 @v @w @y) (j3 @o @q @E)) (j7 @u @F @D @A J @K @I) ?_;all_goals exact gJ (j7 @h1 @v @w @y @P @O @M)
           .have E:(160<(m.code.length:Int))=True:=by simp;omega
            refine gO aa (And.intro (j7 l j n @h1 @v @w @y) (j3 @o @q @E)) (j7 @u @F @D @A J @K @I) ?_;refine j2 (du (by simp[M])) ?_;all_goals exact gJ tI
       .have q:(12<(m.ls.length:Int))=True:=by simp;omega
        refine gO aa (j8 l j @h1 @v @w @y @o @q) (j4 @u @F @D @A) ?_;refine j2 (du (by simp[O])) ?_;all_goals exact gJ tI
      .have o:(6<(m.ps.length:Int))=True:=by simp;omega
       refine gO aa (j7 l j @h1 @v @w @y @o) @u ?_;refine j2 (du (by simp[P])) ?_;all_goals exact gJ tI
def mu (nt nf nm:Int):Int->List Mt->Bool
 | _,[]=>true
 |last,m::r=>if last<=m.owner∧m.owner<nt∧F8 m nt nf nm=true then mu nt nf nm m.owner r else false
theorem Ce (g:bZ) (hl:g.ms.length<=140737488355328) (hn:∀m∈g.ms,Mk m) (σ:AS):
 ad prog 20 [lp g] σ (aq (.sc (.bool (mu g.ts.length g.fs.length g.ms.length 0 g.ms&&decide (g.ms.length<=64)))) σ) No:=by
 have D:((g.ms.length:Int)<=64)=(g.ms.length<=64):=by simp;omega
 have F:=λ(m:Mt) (h:Mk m) σ=>E3 m g h σ;simp only[aN,aT]at F|-;refine ad.ob func20 ?_;refine gO aa tI tI ?_;intro id E;refine gO aa tI tI ?_;refine aA.aY (α:=(Nat)×(Int)) ((0,0)) (λ⟨i,last⟩=>g.ms.length-i) (λ⟨i,last⟩=>i<=g.ms.length∧mu g.ts.length g.fs.length g.ms.length 0 g.ms=mu g.ts.length g.fs.length g.ms.length last (g.ms.drop i)) [(1,?_),(7,?_),(8,?_)] (λ⟨i,last⟩=> [(9,zI i),(3,zI last)]) (λ⟨i,last⟩=>σ.set id (.cells 26 (lp g).cells)) ?_ ?_ ?_ ?_;rotate_left 3
 .exact gF tI
 .exact gT
 ·(try dsimp only)<;>first|exact trivial|exact⟨by omega,rfl⟩|omega|(simp;done)|exact⟨by omega,by simp⟩|exact⟨by omega,by simp,rfl⟩
 intro G v;obtain⟨i,last⟩:=G;try dsimp only at v|-
 obtain⟨J,q⟩:=v;simp only[fm];by_cases n:i<g.ms.length
 .have l:zW ((i:Int)+1)=((i+1:Nat):Int):=bh (by omega);rw[List.drop_eq_getElem_cons n]at q;simp only[mu]at q;have o:=F g.ms[i] (hn _ (List.getElem_mem n));generalize I:g.ms[i]=m at*;refine gO aa (j5 n @I @aT @ae @aN) tI ?_;intro H j u;by_cases y:m.owner<last
  .rw[q,if_neg (λh=>absurd h.1 (by omega))];refine gO aa @y tI ?_;all_goals exact gJ tI
  .by_cases A:(g.ts.length:Int)<=m.owner
   .rw[q,if_neg (λh=>absurd h.2.1 (by omega))];refine gO aa (j4 j @y @A @l) @o ?_;all_goals exact gJ tI
   .cases w:F8 m g.ts.length g.fs.length g.ms.length with
    |false=>rw[w]at o;rw[q,if_neg (by simp[w])];refine gO aa (j4 j @y @A @l) @o ?_;all_goals exact gJ tI
    |true=>
     rw[w]at o;rw[if_pos ⟨by omega,by omega,w⟩]at q;refine gO aa (j4 j @y @A @l) @o ?_;refine aH.mk ((i+1,m.owner)) (by(try dsimp only);omega) (gF tI) (by(try dsimp only);exact aw (by simp[j,u]) (lR _)) ?_;try dsimp only
     exact⟨n,q⟩
 .rw[List.drop_eq_nil_of_le (by omega)]at q;rw[q];simp only[mu];refine gO aa (j4 n @D @ae @aN) tI ?_;all_goals exact gJ tI
structure Lm (g:bZ):Prop where
 ts:g.ts.length<=140737488355328
 fs:g.fs.length<=140737488355328
 ms:g.ms.length<=140737488355328
 t:∀t∈g.ts,t.bO.length<=140737488355328∧t.name.length<=140737488355328
 f:∀f∈g.fs,f.name.length<=140737488355328
 m:∀m∈g.ms,Mk m
def As (g:bZ):Bool:=Bz g.ts&&((lO g.ts.length 0 g.fs&&decide (g.fs.length<=64))&&((mu g.ts.length g.fs.length g.ms.length 0 g.ms&&decide (g.ms.length<=64))&&decide (-1<=g.entry∧g.entry<g.ms.length)))
theorem rV (g:bZ) (n:Lm g) (σ:AS):ad prog 9 [lp g] σ (aq (.sc (.bool (As g))) σ) No:=by
 have h1:=λσ=>Gp g n.ts n.t σ;have l:=λσ=>rW g n.fs n.ts n.f σ;have j:=λσ=>Ce g n.ms n.m σ;unfold As;generalize Bz g.ts=y at h1|-;generalize (lO g.ts.length 0 g.fs&&decide (g.fs.length<=64))=w at l|-;generalize (mu g.ts.length g.fs.length g.ms.length 0 g.ms&&decide (g.ms.length<=64))=v at j|-;simp only[aN]at h1 l j|-;refine ad.ob func9 ?_;refine gO aa tI tI ?_;intro id q;cases y
 .refine gO aa tI (j3 @h1 @l @j) ?_;all_goals exact gJ tI
 .cases w
  .refine gO aa tI (j3 @h1 @l @j) ?_;all_goals exact gJ tI
  .cases v
   .refine gO aa tI (j3 @h1 @l @j) ?_;all_goals exact gJ tI
   .by_cases o: -1<=g.entry
    .by_cases u:g.entry<g.ms.length
     .refine gO aa (j2 @o @u) (j3 @h1 @l @j) ?_;all_goals exact gJ tI
     .refine gO aa (j2 @o @u) (j3 @h1 @l @j) ?_;all_goals exact gJ tI
    .refine gO aa @o (j3 @h1 @l @j) ?_;all_goals exact gJ tI
abbrev mO:dW:=(.A 0 (.A 1 (.S 2 (.S 3 (.A 4 (.S 5 .D) .Z))) .Z) (.A 1 (.S 2 (.R 0 (.S 3 (.A 4 (.S 5 .D) .Z)))) .Z))
theorem bm (S:List Nat):cu prog [(3,mO)] S:=mixed
open Sg (aE bL bI fW fX iJ cD)
open Pl (sV bR bD)
def jj (g:bZ):List (zY):=rq g g.ms.length
def dm (g:bZ):List (zY):=Bq g++(cI g).lo.map (λt=>bI (cD t))
def dE (g:bZ) (nm bl:Nat->Int):List (List (List Int)):= [bt g nm,bu g nm bl,bM g nm bl,(bK g).flatten,cw g bl,cY g bl]
def nM (g:bZ) (i:Nat):Int:=(bR (jj g)).2.1.getD i 0
def pC (g:bZ) (i:Nat):Int:=(bD (dm g)).2.1.getD i 0
def pP (a b c d:zY):zY×Int:=
 if 65536<a.length∨65536<b.length∨65536<c.length∨65536<d.length∨65536<(St.jR (λk=>(St.fu a b c d k))).length then([],4)else(St.jR (λk=>St.fu a b c d k),0)
def dc (g:bZ):zY×Int:=
 if As g=false then([],17)else
 if (bR (jj g)).2.2≠0 then([],(bR (jj g)).2.2)else
 if (bD (dm g)).2.2≠0 then([],(bD (dm g)).2.2)else
 if Rw.okW (dE g (nM g) (pC g)) (g.entry+1)=false then([],4)else
 pP (Rw.de (dE g (nM g) (pC g)) (g.entry+1)) (bR (jj g)).1 (bD (dm g)).1 (cI g).co
def wm (g:bZ):AV:= .cp [.ah 5 ((dc g).1.map u8) .aJ (decide ((dc g).2≠0)),zI ((dc g).2)]
theorem fV {g:bZ}{e:Int}(he:e≠0) (h:dc g=([],e)):AV.Wk prog (.cp [.aC,zI e]) (wm g):=by unfold wm;rw[h];exact dt (by simp[he]) (Wk.refl _)
def OI:List (Nat×TypeId):= [(4,49),(6,47),(8,9),(9,30),(10,5)]
def Lu:List (Nat×TypeId):= [(0,44),(1,44),(2,44),(3,44),(4,44),(5,44)]
def PR (g:bZ) (bj:Nat):List AV:= [.ah 46 (g.ts.map jD) .aJ g.tn,.ah 56 (g.fs.map lu) .aJ g.fn,.ah 53 (g.ms.map fM) .aJ g.mn,zI g.entry,
 .aC,.sc (.func (.func 25) #[] #[]),.aC,.sc (.func (.func 26) #[] #[]),.aC,.aC,.aC,zI 0,.dg bj 0 6 6]
theorem SI.init {g:bZ}{B σ q o:AS}{aF bj:Nat}{n l:List Nat}(U:B aF=none) (V:B bj=none) (D:aF≠bj) (J:∀j,j≠aF->j≠bj->σ j=B j) (F:σ aF≠none) (A:σ bj≠none)
 (l1:n.length=5) (n1:n.Nodup) (f1:∀t∈n,σ t=none) (X:q aF=some (.cells 74 (zx (PR g bj) OI n))) (t1:∀t∈n,q t=some (.tok 0)) (I:∀j,j≠aF->j ∉ n->q j=σ j)
 (l2:l.length=6) (n2:l.Nodup) (f2:∀t∈l,q t=none) (K:o bj=some (.cells 94 (zx [.aC,.aC,.aC,.aC,.aC,.aC] Lu l))) (t2:∀t∈l,o t=some (.tok 0)) (H:∀j,j≠bj->j ∉ l->o j=q j):
 ∃k T,k.aF=aF∧SI k g ⟨[],[],[],[],[]⟩ T B o∧cH T= [[],[],[],[],[],[]]:=by
 have a1:aF ∉ n:=λh=>F (f1 _ h);have Q:bj ∉ n:=λh=>A (f1 _ h);have P:aF ∉ l:=λh=>by have:=f2 _ h;rw[X]at this;cases this
 have a4:bj ∉ l:=λh=>by have:=f2 _ h;rw[I _ D.symm Q]at this;exact A this
 have O:∀t∈n,t ∉ l:=λt ht h=>by have:=f2 _ h;rw[t1 t ht]at this;cases this
 have M:∀t∈n,t≠aF∧t≠bj:=λt ht=>⟨λe=>a1 (e ▸ ht),λe=>Q (e ▸ ht)⟩;have L:∀t∈l,t≠aF∧t≠bj:=λt ht=>⟨λe=>P (e ▸ ht),λe=>a4 (e ▸ ht)⟩;have E:∀t∈n,o t=some (.tok 0):=λt ht=>by rw[H _ (M t ht).2 (O t ht)];exact t1 t ht
 have Z:∀t∈n,B t=none:=λt ht=>by rw[<-J _ (M t ht).1 (M t ht).2];exact f1 t ht
 have Y:∀t∈l,B t=none:=λt ht=>by rw[<-J _ (L t ht).1 (L t ht).2,<-I _ (L t ht).1 (λh=>O t h ht)];exact f2 t ht
 have hle:AS.le B o:=by
  intro j b y;have S:j≠aF:=nq U y;have j2:j≠bj:=nq V y;have j3:j ∉ n:=λh=>by rw[Z _ h]at y;cases y
  have j4:j ∉ l:=λh=>by rw[Y _ h]at y;cases y
  rw[H _ j2 j4,I _ S j3,J _ S j2];exact y
 have u:o aF=some (.cells 74 (zx (PR g bj) OI n)):=by rw[H _ D P];exact X
 have v:(aF::bj::(n++l)).Nodup:=by simp only[List.nodup_cons,List.mem_cons,List.mem_append,not_or];exact⟨⟨D,a1,P⟩,⟨Q,a4⟩,List.nodup_append.2 ⟨n1,n2,λa ha b hb e=>O a ha (e ▸ hb)⟩⟩
 have w:∀j∈aF::bj::(n++l),B j=none:=by
  intro j y;simp only[List.mem_cons,List.mem_append]at y;rcases y with rfl|rfl|h|h
  .exact U
  .exact V
  .exact Z j h
  .exact Y j h
 match n,l1,u,E,v,w with
 |[a,b,c,d,e],_,u,E,v,w=>
 match l,l2,K,t2,v,w with
 |[x0,x1,x2,x3,x4,x5],_,K,t2,v,w=>
  refine⟨⟨aF,bj,a,b,c,d,e⟩,[(x0,[]),(x1,[]),(x2,[]),(x3,[]),(x4,[]),(x5,[])],rfl,⟨u,K,E a (by simp),E b (by simp),E c (by simp),E d (by simp),E e (by simp),?_,?_,hle,rfl,v,w⟩,rfl⟩
  .intro x G;simp only[List.mem_cons,List.not_mem_nil,or_false]at G;rcases G with rfl|rfl|rfl|rfl|rfl|rfl<;>exact t2 _ (by simp)
  .intro x G p hp;simp only[List.mem_cons,List.not_mem_nil,or_false]at G;rcases G with rfl|rfl|rfl|rfl|rfl|rfl<;>cases hp
def mB (g:bZ):List Int:=(bR (jj g)).2.1
def kp (g:bZ):List Int:=(bD (dm g)).2.1
section
variable {k:SK} {g:bZ} {d:SD} {T:SR} {B τ:AS} {en:Int}
theorem SJ.le (h:SJ k g d T B en τ):AS.le B τ:=by obtain⟨j,h0,rfl⟩:=h;exact AS.ao h0.le (h0.I9).1
theorem SJ.my (h:SJ k g d T B en τ) {i:Nat}(j:τ i=none):B i=none:=iN h.le j
theorem SJ.own (h:SJ k g d T B en τ) {i:Nat}{b:cL}(l:τ i=none):SJ k g d T (B.set i b) en (τ.set i b):=by
 have j:k.aF≠i:=by rintro e;have:=h.aF;rw[e,l]at this;cases this
 obtain⟨n,h0,rfl⟩:=h;rw[AS.ag _ _ (Ne.symm j)]at l;exact⟨_,h0.own l,AS.set_comm j⟩
theorem SJ.drop (h:SJ k g d T B en τ) {B':AS}(hle:AS.le B' B):SJ k g d T B' en τ:=by obtain⟨j,h0,rfl⟩:=h;exact⟨j,h0.drop hle,rfl⟩
theorem SJ.step (h:SJ k g d T B en τ) {t c:Nat}{P:List Int}{op:cA}{np:Bool}{X:List (List Int)}(j:(cH T)[t]? =some X) (hl:X.length<=100000) (v:P.length<=100000) (u:∀r∈X,c<r.length∧0<=r.getD c 0∧(r.getD c 0).toNat<P.length∧r.length<=1000):
 ad prog 31 [.ptr k.aF 0,zI t,zI c,.ah 3 (P.map bg) op np] τ (λr l=>r= .cp []∧ ∃o,SJ k g d o B en l∧cH o=(cH T).modify t (·.map (rp c P))) No:=by
 rw[cH,List.getElem?_map]at j;cases n:T[t]? with
 |none=>rw[n]at j;cases j
 |some x=>rw[n]at j;simp only[Option.map_some,Option.some.injEq]at j;subst j;exact(h.place n (by simpa using hl) v (λp q=>u p.2 (List.mem_map.2 ⟨p,q,rfl⟩))).mono (λr l ⟨h1,w⟩=>⟨h1,_,w,Gx _ _ _ _⟩) (λ_ _ h=>h)
end
theorem ir {α β:Type}{f:Nat->α->β}{l:List α}{y:β}(h:y∈l.mapIdx f):∃i,∃j:i<l.length,y=f i l[i]:=by obtain⟨i,j,rfl⟩:=List.getElem_of_mem h;exact⟨i,by simpa using j,by simp⟩
theorem B3 {τ:AS} :∀ {L:List Fz}{σ:AS},AS.le σ τ->(∀p∈L,τ p.1=some (.cells p.2.1 (aR p.2.2)))->AS.le (mU L σ) τ
 |[],_,h,_ =>h
 |p::r,σ,h,n=>by
  intro j b l;by_cases e:j=p.1
  .subst e;rw[mU,AS.aD]at l;cases l;exact n p (by simp)
  .rw[mU,AS.ag _ _ e]at l;exact B3 h (λq o=>n q (by simp[o])) j b l
theorem oD:∀ {l:List AV},(∀v∈l,v.cells= [v])->aR l=l
 |[],_ =>rfl
 |v::r,h=>by rw[fZ,h v (by simp),oD λx j=>h x (by simp[j])];rfl
def EJ (T:SR):Rw.Br:=T.map λx=>(x.2.map (λp=>(p.2,false)),decide (x.2= []))
theorem Dh (T:SR):Rw.pl (EJ T)=cH T:=by simp[Rw.pl,EJ,Rw.jv,cH,Function.comp_def]
def O4 (T:SR):List Fz:=T.flatMap λx=>x.2.map λp=>(p.1,3,p.2.map bg)
section
variable {k:SK} {g:bZ} {d:SD} {T:SR} {B τ:AS} {en:Int}
theorem SJ.write (h:SJ k g d T B en τ) (hb:∀y∈cH T,y.length<=20000) (Z:∀y∈cH T,∀r∈y,r.length<=1000) (hF:Rw.dC (cH T)=true):
 ad prog 32 [.agg [zI en,.dg k.bj 0 6 6]] τ (Rw.vT (Rw.de (cH T) en) (Rw.okW (cH T) en) (B.set k.aF (.cells 74 (uz k g d en)))) No:=by
 have U:=h.aF;have hw:=Rw.Eh en (EJ T) .aJ false (λx j=>by
  obtain⟨y,o,rfl⟩:=List.mem_map.1 j;have:=hb _ (List.mem_map.2 ⟨y,o,rfl⟩);simpa using this) (λx j r L=>by
  obtain⟨y,o,rfl⟩:=List.mem_map.1 j;obtain⟨p,n,rfl⟩:=List.mem_map.1 L;exact Z _ (List.mem_map.2 ⟨y,o,rfl⟩) p.2 (List.mem_map.2 ⟨p,n,rfl⟩)) (by rw[Dh];exact hF) (B.set k.aF (.cells 74 (uz k g d en)))
 rw[Dh]at hw;obtain⟨X,h0,F⟩:=h;have D:∀v∈T.map zp,v.cells= [v]:=λv E=>by obtain⟨x,_,rfl⟩:=List.mem_map.1 E;rfl
 have hint:∀(l:List Int),∀v∈l.map bg,v.cells= [v]:=λl v E=>by obtain⟨x,_,rfl⟩:=List.mem_map.1 E;rfl
 have w:∀p∈O4 T,∃x∈T,∃q∈x.2,p=(q.1,3,q.2.map bg):=λp n=>by obtain⟨x,j,n⟩:=List.mem_flatMap.1 n;obtain⟨q,u,rfl⟩:=List.mem_map.1 n;exact⟨x,j,q,u,rfl⟩
 have J:(O4 T).map (·.1)=T.flatMap λx=>x.2.map (·.1):=by simp[O4,List.map_flatMap,Function.comp_def]
 have P:=List.nodup_append.1 h0.dE;have I:=h0.ne;have Q:=h0.I9;refine ad.le (σ:=mU ((k.bj,94,T.map zp)::O4 T) (B.set k.aF (.cells 74 (uz k g d en)))) (ad.PB ((k.bj,94,T.map zp)::O4 T) hw ?_ ?_ ?_ ?_) (B3 ?_ ?_)
 .intro p n;rcases List.mem_cons.1 n with rfl|n
  .rw[AS.ag _ _ (Ne.symm I.1)];exact Q.2.1
  .obtain⟨x,j,q,u,rfl⟩:=w p n;rw[AS.ag _ _ (h0.qn j u).1];exact h0.fr q.1 (by simp only[keys,List.mem_cons,List.mem_append,List.mem_flatMap,List.mem_map];exact .inr (.inr (.inr (.inr (.inr (.inr (.inr (.inr ⟨x,j,q,u,rfl⟩))))))))
 .rw[List.map_cons,J,List.nodup_cons];refine⟨λhm=> ?_,P.2.1⟩;obtain⟨x,j,hm⟩:=List.mem_flatMap.1 hm;obtain⟨q,u,e⟩:=List.mem_map.1 hm;exact(h0.qn j u).2.1 e
 .intro p n v E;rcases List.mem_cons.1 n with rfl|n
  .rw[D v E];simp
  .obtain⟨x,j,q,u,rfl⟩:=w p n;rw[hint _ v E];simp
 .intro G xs S L;have H:=S _ (List.mem_cons_self);have O:∀x∈T,∀q∈x.2,∀y,aU prog G (F7 q) y->aU prog G (Rw.iV (q.2,false)) y:=λx j q u y o=>by have:=S (q.1,3,q.2.map bg) (List.mem_cons_of_mem _ (List.mem_flatMap.2 ⟨x,j,List.mem_map.2 ⟨q,u,rfl⟩⟩)) y (by simpa[F7]using o);exact(CY _ _ _ _).2 trivial _ _ this
  have M:∀x∈T,∀y,aU prog G (zp x) y->aU prog G (Rw.lV (x.2.map (λp=>(p.2,false)),decide (x.2= []))) y:=λx j y o=>by
   refine qH (by simp) (by simp) (λi A=>⟨?_,?_⟩) (λi A y o=> ?_) o
   .simp[F7,AV.cells]
   .simp[Rw.iV,AV.cells]
   .simp only[List.getElem_map]at o|-;exact O x j _ (List.getElem_mem _) y o
  have K:∀y,aU prog G (.dg k.bj 0 6 6) y->aU prog G (.ah 94 ((EJ T).map Rw.lV) .aJ false) y:=λy o=>by
   have h1:=H y (by simpa[h0.qj]using o);refine qH (by simp) (by simp[EJ]) (λi A=>⟨?_,?_⟩) (λi A y o=> ?_) h1
   .simp[zp,AV.cells]
   .simp[Rw.lV,AV.cells]
   .simp only[List.getElem_map,EJ]at o|-;exact M _ (List.getElem_mem _) y o
  refine⟨L.1,λi A=> ?_⟩;have h1:=L.2 i A
  match i,A with
  |0,_ =>
   simp only[List.getD_cons_zero]at h1|-;generalize xs.getD 0 undef=x at h1|-;cases h1 with
   |agg vs l Y=>
    refine .agg vs l λi A=> ?_;have V:=Y i A
    match i,A with
    |0,_ =>exact V
    |1,_ =>exact K _ V
 .rw[F];exact iM h0.le
 .intro p n;rw[F];rcases List.mem_cons.1 n with rfl|n
  .rw[AS.ag _ _ (Ne.symm I.1),h0.bj,oD D]
  .obtain⟨x,j,q,u,rfl⟩:=w p n;rw[AS.ag _ _ (h0.qn j u).1,h0.row x j q u,oD (hint _)];rfl
end
theorem oq {α β j:Type}(f:Nat->α->β) (h:β->j) (l:List α):(l.mapIdx f).map h=l.mapIdx λi x=>h (f i x):=by apply List.ext_getElem<;>simp
theorem LM (g:bZ):(bt g bp).map (rp 1 (mB g))=bt g (nM g):=by unfold bt;rw[oq];congr 1
theorem Hq (g:bZ) (b:Nat->Int):(bu g bp b).map (rp 1 (mB g))=bu g (nM g) b:=by unfold bu;rw[oq];congr 1
theorem Hn (g:bZ) (b:Nat->Int):(bM g bp b).map (rp 3 (mB g))=bM g (nM g) b:=by unfold bM;rw[oq];congr 1
theorem Ho (g:bZ) (n:Nat->Int):(bu g n bp).map (rp 2 (kp g))=bu g n (pC g):=by unfold bu;rw[oq];congr 1
theorem Hm (g:bZ) (n:Nat->Int):(bM g n bp).map (rp 4 (kp g))=bM g n (pC g):=by unfold bM;rw[oq];congr 1
theorem LN (g:bZ):(cw g bp).map (rp 0 (kp g))=cw g (pC g):=by unfold cw;rw[List.map_map];congr 1
theorem LO (g:bZ):(cY g bp).map (rp 0 (kp g))=cY g (pC g):=by unfold cY;rw[List.map_map];congr 1
def Qo (g:bZ) (i:Nat):List (List (List Int)):= [bt g (if 0<i then nM g else bp),bu g (if 1<i then nM g else bp) bp,bM g (if 2<i then nM g else bp) bp,(bK g).flatten,cw g bp,cY g bp]
def NV (g:bZ) (i:Nat):List (List (List Int)):= [bt g (nM g),bu g (nM g) (if 0<i then pC g else bp),bM g (nM g) (if 1<i then pC g else bp),(bK g).flatten,cw g (if 2<i then pC g else bp),cY g (if 3<i then pC g else bp)]
theorem xj {l:List (zY)}(h:(bR l).2.2=0):(bR l).1.length<=65536:=by
 unfold bR at*;split at h
 .simp at h
 .rename_i n;rw[if_neg n];split at h
  .simp at h
  .rename_i j;rw[if_neg j];show(Pl.qh l [0] []).1.length<=65536;omega
theorem xD {l:List (zY)}(h:(bD l).2.2=0):(bD l).1.length<=65536:=by
 unfold bD at*;split at h
 .simp at h
 .rename_i j;rw[if_neg j];show(Pl.oL l [0] []).1.length<=65536;omega
theorem ld (g:bZ):(jj g).length=g.ts.length+g.fs.length+g.ms.length:=by simp[jj,rq];omega
theorem HH {g:bZ}(h:Lm g):∀s∈jj g,s.length<=140737488355328:=by
 intro s l;simp only[jj,rq,List.take_length,List.mem_append,List.mem_map]at l;rcases l with(⟨x,j,rfl⟩|⟨x,j,rfl⟩)|⟨x,j,rfl⟩
 .exact(h.t x j).2
 .exact h.f x j
 .exact(h.m x j).name
theorem g9 (g:bZ):(dm g).length=g.fs.length+g.ms.length+(cI g).sp.length+(cI g).lo.length:=by rw[dm,List.length_append,Bq,List.length_append,qZ];simp
theorem UE {g:bZ}(h:(mB g).length=(jj g).length):∀r∈bt g bp,1<r.length∧0<=r.getD 1 0∧(r.getD 1 0).toNat<(mB g).length∧r.length<=1000:=by intro r j;obtain⟨i,l,rfl⟩:=ir j;have:=ld g;simp[qi,bp];omega
theorem UD {g:bZ}{b:Nat->Int}(h:(mB g).length=(jj g).length):∀r∈bu g bp b,1<r.length∧0<=r.getD 1 0∧(r.getD 1 0).toNat<(mB g).length∧r.length<=1000:=by intro r j;obtain⟨i,l,rfl⟩:=ir j;have:=ld g;simp[lx,bp];omega
theorem UC {g:bZ}{b:Nat->Int}(h:(mB g).length=(jj g).length):∀r∈bM g bp b,3<r.length∧0<=r.getD 3 0∧(r.getD 3 0).toNat<(mB g).length∧r.length<=1000:=by intro r j;obtain⟨i,l,rfl⟩:=ir j;have:=ld g;simp[ef]at l;simp[oh,bp];omega
theorem UA {g:bZ}{n:Nat->Int}(h:(kp g).length=(dm g).length):∀r∈bu g n bp,2<r.length∧0<=r.getD 2 0∧(r.getD 2 0).toNat<(kp g).length∧r.length<=1000:=by intro r j;obtain⟨i,l,rfl⟩:=ir j;have:=g9 g;simp[lx,bp];omega
theorem Uz {g:bZ}{n:Nat->Int}(h:(kp g).length=(dm g).length):∀r∈bM g n bp,4<r.length∧0<=r.getD 4 0∧(r.getD 4 0).toNat<(kp g).length∧r.length<=1000:=by intro r j;obtain⟨i,l,rfl⟩:=ir j;have:=g9 g;simp[ef]at l;simp[oh,bp];omega
theorem Uy {g:bZ}(h:(kp g).length=(dm g).length):∀r∈cw g bp,0<r.length∧0<=r.getD 0 0∧(r.getD 0 0).toNat<(kp g).length∧r.length<=1000:=by intro r j;obtain⟨i,l,rfl⟩:=List.mem_map.1 j;have:=g9 g;simp at l;simp[kJ,bp];omega
theorem Ux {g:bZ}(h:(kp g).length=(dm g).length):∀r∈cY g bp,0<r.length∧0<=r.getD 0 0∧(r.getD 0 0).toNat<(kp g).length∧r.length<=1000:=by intro r j;obtain⟨i,l,rfl⟩:=List.mem_map.1 j;have:=g9 g;simp at l;simp[kJ,bp];omega
theorem nS (g:bZ) (nm bl:Nat->Int):Rw.dC (dE g nm bl)=true:=by
 have o:∀ {α:Type} (f:Nat->α->List Int) (l:List α) (n:Nat),(∀i x,(f i x).length=n)->(l.mapIdx f).all (λrow=>decide (row.length=n))=true:=by intro α f l n h;rw[List.all_eq_true];intro r j;obtain⟨i,w,rfl⟩:=ir j;simp[h]
 have y:((bK g).flatten).all (λrow=>decide (row.length=2))=true:=by rw[List.all_eq_true];intro r j;obtain⟨l,hl,j⟩:=List.mem_flatten.1 j;obtain⟨i,w,rfl⟩:=ir hl;obtain⟨x,_,rfl⟩:=List.mem_map.1 j;rfl
 have h0:=o (qi g nm) g.ts 5 (λ_ _ =>rfl);have h1:=o (lx g nm bl) g.fs 3 (λ_ _ =>rfl);have A:=o (oh g nm bl) (g.ms.zip (dw mI g.ms).2) 6 (λ_ _ =>rfl);have k0:(bS ((0:Nat):Int)).length=5:=rfl;have k1:(bS ((1:Nat):Int)).length=3:=rfl;have v:(bS ((2:Nat):Int)).length=6:=rfl;have u:(bS ((3:Nat):Int)).length=2:=rfl;have k4:(bS ((4:Nat):Int)).length=1:=rfl;have q:(bS ((5:Nat):Int)).length=1:=rfl;simp only[Rw.dC,dE,Rw.gG,bt,bu,bM,k0,k1,v,u,k4,q,h0,h1,A,y,Bool.true_and,Bool.and_true,Nat.zero_add,Nat.reduceAdd];simp[cw,cY,kJ]
theorem nQ {g:bZ}(j:tu g) (nm bl:Nat->Int):∀y∈dE g nm bl,y.length<=20000:=by
 have u:=j.ts;have w:=j.fs;have v:=j.ms;have l:=na j g.ts.length;rw[List.take_of_length_le (by simp[bK])]at l;have o:(cI g).sp.length<=20000:=by have:=j.sp g.ms.length;rwa [List.take_length]at this
 have q:(cI g).lo.length<=64:=by have:=j.lo g.ms.length;rwa [List.take_length]at this
 intro y n;simp only[dE,List.mem_cons,List.not_mem_nil,or_false]at n;rcases n with rfl|rfl|rfl|rfl|rfl|rfl
 .simp[bt];omega
 .simp[bu];omega
 .simp[bM,ef];omega
 .omega
 .simp[cw];omega
 .simp[cY];omega
theorem xw:∀ {L:List (List (List Int))}{t:Nat},Rw.gG t L=true-> ∀y∈L,∀r∈y,r.length<=6
 |[],_,_,y,j=>by cases j
 |x::l,t,h,y,j=>by
  simp only[Rw.gG,Bool.and_eq_true]at h;rcases List.mem_cons.1 j with rfl|j
  .intro r n;have:=List.all_eq_true.1 h.1 r n;have o:=Rw.o8 (t:Int);simp at this;omega
  .exact xw h.2 y j
theorem zq (g:bZ) (nm bl:Nat->Int):∀y∈dE g nm bl,∀r∈y,r.length<=1000:=λy j r l=>by have h:=nS g nm bl;simp only[Rw.dC,Bool.and_eq_true]at h;have:=xw h.2 y j r l;omega
theorem Df:∀(j:zY) (r:List Int),(Rw.s8 j r).length<=4*j.length
 |[],r=>by cases r<;>simp[Rw.s8]
 |k::j,[]=>by simp[Rw.s8]
 |k::j,x::r=>by have:=Df j r;have hw:=Rw.Gl k 0;simp only[Rw.s8,List.length_append,an,List.length_cons];rcases hw with h|h<;>rw[h]<;>simp<;>omega
theorem C9 (t:Nat):∀(l:List (List Int)),(Rw.pR t l).length<=24*l.length
 |[]=>by simp[Rw.pR]
 |r::l=>by have h1:=C9 t l;have n:=Df (bS t) r;have j:=Rw.o8 (t:Int);simp only[Rw.pR,List.flatMap_cons,List.length_append,List.length_cons]at h1|-;omega
theorem AX:∀(L:List (List (List Int))) (t:Nat),(∀l∈L,l.length<=20000)->(Rw.iP t L).length<=480000*L.length
 |[],t,_ =>by simp[Rw.iP]
 |l::L,t,h=>by have h1:=AX L (t+1) λx j=>h x (by simp[j]);have o:=C9 t l;have n:=h l (by simp);simp only[Rw.iP,List.length_append,List.length_cons];omega
theorem DV:∀(L:List (List (List Int))),(Rw.qX L).length<=2*L.length
 |[]=>by simp[Rw.qX]
 |l::L=>by
  have h1:=DV L;have j:(Rw.CC l).length<=2:=by unfold Rw.CC;split<;>simp[an]
  simp only[Rw.qX,List.flatMap_cons,List.length_append,List.length_cons]at h1|-;omega
theorem wM {L:List (List (List Int))}(en:Int) (h:∀l∈L,l.length<=20000) (j:L.length=6):(Rw.de L en).length<=10000000:=by have h1:=AX L 0 h;have n:=DV L;simp only[Rw.de,List.length_append,an,List.length_cons,List.length_nil];omega
theorem KV (l:List (zY)) (nl:Bool) (n:cA) (hl:l.length<=100000) (o:∀s∈l,s.length<=300) (σ:AS):
 ad prog 30 [.ah 30 (l.map bL) n nl] σ (aq (Pl.ND l) σ) No:=by
 have h:=Pl.FI (l.map λb=>(b,decide (b= []))) nl n (by simpa using hl) (λs j=>by obtain⟨b,q,rfl⟩:=List.mem_map.1 j;exact o b q) σ;rw[List.map_map,List.map_map]at h;have v:(Pl.bV∘λb=>(b,decide (b= [])))=bL:=rfl;have u:((λx:zY×Bool=>x.1)∘λb=>(b,decide (b= [])))=id:=rfl;rw[v,u,List.map_id]at h;exact h
theorem JC (g:bZ) (hL:Lm g) (hO:As g=true->tu g) (c3:As g=true-> ∀b∈dm g,b.length<=300) (σ:AS):ad prog 12 [lp g] σ (aq (wm g) σ) No:=by
 have ab:=λσ=>rV g hL σ;cases hF:As g with
 |false=>
  rw[hF]at ab;have hS:dc g=([],17):=by unfold dc;rw[if_pos hF]
  simp only[aN]at ab|-;refine ad.ob func12 ?_;refine gO bm tI tI ?_;intro M U;refine gO bm tI @ab ?_;exact⟨fV (by decide) hS,AS.ao (lR _) U⟩
 |true=>
 rw[hF]at ab;have I:=hO hF;have c4:=c3 hF;simp only[aN]at ab|-;refine ad.ob func12 ?_;refine gO bm tI tI ?_;intro M U;refine gO (S:= [3]) bm tI @ab ?_;refine Sg.Fv (α:=Nat×Nat) (λv=>v.1≠M∧σ v.1=none∧v.2≠v.1∧v.2≠M∧σ v.2=none) (λv=> [(1,.ptr M 0),(4,.ptr v.2 0)]) (λv=>((σ.set M (.cells 26 [.ah 46 (g.ts.map jD) .aJ g.tn,.ah 56 (g.fs.map lu) .aJ g.fn,.ah 53 (g.ms.map fM) .aJ g.mn,zI g.entry])).set v.1 (.cells 94 (eM 6 .aC))).set v.2 (.cells 74 [.ah 46 (g.ts.map jD) .aJ g.tn,.ah 56 (g.fs.map lu) .aJ g.fn,.ah 53 (g.ms.map fM) .aJ g.mn,zI g.entry,
  .aC,.sc .nilFunc,.aC,.sc .nilFunc,.aC,.aC,.aC,zI 0,.dg v.1 0 6 6])) ?_ ?_
 ·(((with_reducible apply dX 3 mO);refine dY mixed ?_);simp-implicitDefEqProofs)
  constructor
  .intro bj n1 h1 aF n2 Q h2;refine oI.mk ((bj,aF)) (gF tI) gT ?_;try dsimp only
   exact⟨n1,h1,n2,Q,h2⟩
  .intro bj n1 h1;have bf:=ba n1;simp-implicitDefEqProofs [bf];intro aF n2 Q h2;refine oI.mk ((bj,aF)) (gF tI) gT ?_;try dsimp only
   exact⟨n1,h1,n2,Q,h2⟩
 rintro⟨bj,aF⟩ ⟨n1,h1,n2,Q,h2⟩;simp only at n1 h1 n2 Q h2|-;have bf:=ba n1;have am:=ba n2;have em:=ba Q;refine gO (S:= [6]) bm tI tI ?_;refine aA.DA aF (ty:=74) OI (cs:=PR g bj) (by simp[PR]) (by simp[OI,PR]) (by simp[OI]) ?_;intro ek ch l1 m1 f1 c1 t1 o1;have d8:∀ {σ':AS},σ' bj=some (.cells 94 (eM 6 .aC))->σ' bj≠none:=λh=>by rw[h];simp
 have b0:ch bj=some (.cells 94 (eM 6 .aC)):=by rw[o1 bj am (λh=>by have:=f1 _ h;simp[am]at this)];simp[am]
 refine aA.DA bj (ty:=94) Lu (cs:=eM 6 .aC) b0 (by simp[Lu,eM]) (by simp[Lu]) ?_;intro dl ej l2 m2 f2 c2 t2 o2;obtain⟨k,T,rfl,c8,hT⟩:=SI.init (g:=g) (B:=σ.set M (.cells 26 [.ah 46 (g.ts.map jD) .aJ g.tn,.ah 56 (g.fs.map lu) .aJ g.fn,.ah 53 (g.ms.map fM) .aJ g.mn,zI g.entry])) (by simp[Q,h2]) (by simp[n1,h1]) n2
  (λj j1 j2=>by simp[AS.set,j1,j2]) (by simp) (by simp[am]) l1 m1 f1 c1 t1 o1 l2 m2 f2 c2 t2 o2
 clear o1 o2 c1 c2 t1 t2 f1 f2 b0;have Y:AS.le σ (σ.set M (.cells 26 [.ah 46 (g.ts.map jD) .aJ g.tn,.ah 56 (g.fs.map lu) .aJ g.fn,.ah 53 (g.ms.map fM) .aJ g.mn,zI g.entry])):=AS.ao (lR _) U;generalize (σ.set M (.cells 26 [.ah 46 (g.ts.map jD) .aJ g.tn,.ah 56 (g.fs.map lu) .aJ g.fn,.ah 53 (g.ms.map fM) .aJ g.mn,zI g.entry]))=A at*;refine gO bm tI tI ?_;refine aj.of (SI.all I ⟨T,by simpa using c8,by simpa using hT⟩) ?_ (λ_ _ h=>h.elim);rintro r bb ⟨rfl,T',ax,h3,c6,rfl⟩;have hJ:SJ k g (rm g) T' A (g.entry+1) (ax.set k.aF (.cells 74 (uz k g (rm g) (g.entry+1)))):=⟨ax,h3,rfl⟩;generalize (ax.set k.aF (.cells 74 (uz k g (rm g) (g.entry+1))))=bb at*;clear h3;have Z:=hJ.aF;simp only[eh]at Z;have e2:=I.ts;have e4:=I.fs;have e3:=I.ms;have cv:(rm g).nm=jj g:=rfl;have b5:(rm g).bl=dm g:=rfl;rw[cv,b5]at Z;have e9:=ld g;have d9:(cI g).sp.length<=20000:=by have:=I.sp g.ms.length;rwa [List.take_length]at this
 have ea:(cI g).lo.length<=64:=by have:=I.lo g.ms.length;rwa [List.take_length]at this
 have fa:=g9 g;have J:=λσ=>Pl.EZ (jj g) (decide (jj g= [])) (.tok k.tN) (by omega) (HH hL) σ;have K:=λσ=>KV (dm g) (decide (dm g= [])) (.tok k.tB) (by omega) c4 σ;simp only[Pl.ND]at K;simp-implicitDefEqProofs;by_cases y:(bR (jj g)).2.2=0
 .by_cases L:(bD (dm g)).2.2=0
  .have hz:True:=trivial;have al:(mB g).length=(jj g).length:=by
    unfold mB bR at*;split at y
    .simp at y
    .rename_i c1;rw[if_neg c1];split at y
     .simp at y
     .rename_i c2;rw[if_neg c2];simp[Pl.tK]
   have V:(kp g).length=(dm g).length:=by
    unfold kp bD at*;split at L
    .simp at L
    .rename_i c2;rw[if_neg c2];simp[Pl.uf]
   have ca:(bR (jj g)).2.1=mB g:=rfl;have cb:(bD (dm g)).2.1=kp g:=rfl;rw[ca]at J;rw[cb]at K;refine gO bm (j3 @Z @y @L) (j2 @J @K) ?_;refine aA.aY (α:=(Nat)×(AS)) ((0,bb)) (λ⟨i,O⟩=>3-i) (λ⟨i,O⟩=>i<=3∧ ∃T',SJ k g (rm g) T' A (g.entry+1) O∧cH T'=Qo g i) [(2,?_),(3,?_),(4,?_),(5,?_),(6,?_),(7,?_),(8,?_),(9,?_),(60,?_)] (λ⟨i,O⟩=> [(61,zI i)]) (λ⟨i,O⟩=>O) ?_ ?_ ?_ ?_;rotate_left 9
   .exact gF tI
   ·(try dsimp only);exact lR _
   .exact⟨by omega,T',hJ,c6⟩
   intro x_ af;obtain⟨i,O⟩:=x_;try dsimp only at af|-
   obtain⟨hi,T4,q,w⟩:=af;simp only[fm];by_cases a2:i<3
   .have be:zW ((i:Int)+1)=((i+1:Nat):Int):=bh (by omega);have h0:i=0∨i=1∨i=2:=by omega
    rcases h0 with rfl|rfl|rfl
    .refine gO bm tI tI ?_;intro H l;have E:=q.own (b:= .cells 78 [zI 0,zI 1]) l;have G:=q.my l;have o:=λnp=>E.step (t:=0) (c:=1) (P:=mB g) (op:= .aJ) (np:=np) (X:=bt g bp) (by rw[w];rfl) (by simp[bt];omega) (by omega) (UE al);simp only[Int.cast_ofNat_Int]at o;refine gO bm tI tI ?_;refine aj.of (o _) ?_ (λ_ _ h=>h.elim);rintro r n ⟨rfl,T5,F,D⟩;simp-implicitDefEqProofs;refine gO bm tI tI ?_;refine aH.mk ((1,n)) (by(try dsimp only);omega) (gF tI) gT ?_;try dsimp only
     refine⟨by omega,T5,F.drop (AS.ao (lR _) G),?_⟩;rw[D,w];simp[Qo,LM]
    .refine gO bm tI tI ?_;intro H l;have E:=q.own (b:= .cells 78 [zI 1,zI 1]) l;have G:=q.my l;have o:=λnp=>E.step (t:=1) (c:=1) (P:=mB g) (op:= .aJ) (np:=np) (X:=bu g bp bp) (by rw[w];rfl) (by simp[bu];omega) (by omega) (UD al);simp only[Int.cast_ofNat_Int]at o;refine gO bm tI tI ?_;refine aj.of (o _) ?_ (λ_ _ h=>h.elim);rintro r n ⟨rfl,T5,F,D⟩;simp-implicitDefEqProofs;refine gO bm tI tI ?_;refine aH.mk ((2,n)) (by(try dsimp only);omega) (gF tI) gT ?_;try dsimp only
     refine⟨by omega,T5,F.drop (AS.ao (lR _) G),?_⟩;rw[D,w];simp[Qo,Hq]
    .refine gO bm tI tI ?_;intro H l;have E:=q.own (b:= .cells 78 [zI 2,zI 3]) l;have G:=q.my l;have o:=λnp=>E.step (t:=2) (c:=3) (P:=mB g) (op:= .aJ) (np:=np) (X:=bM g bp bp) (by rw[w];rfl) (by simp[bM,ef];omega) (by omega) (UC al);simp only[Int.cast_ofNat_Int]at o;refine gO bm tI tI ?_;refine aj.of (o _) ?_ (λ_ _ h=>h.elim);rintro r n ⟨rfl,T5,F,D⟩;simp-implicitDefEqProofs;refine gO bm tI tI ?_;refine aH.mk ((3,n)) (by(try dsimp only);omega) (gF tI) gT ?_;try dsimp only
     refine⟨by omega,T5,F.drop (AS.ao (lR _) G),?_⟩;rw[D,w];simp[Qo,Hn]
   obtain rfl:i=3:=by omega
   clear Z hJ a2 hi;refine gO bm tI tI ?_;refine aA.aY (α:=(Nat)×(AS)) ((0,O)) (λ⟨i,n⟩=>4-i) (λ⟨i,n⟩=>i<=4∧ ∃T',SJ k g (rm g) T' A (g.entry+1) n∧cH T'=NV g i) [(2,?_),(3,?_),(4,?_),(5,?_),(7,?_),(8,?_),(9,?_),(76,?_)] (λ⟨i,n⟩=> [(77,zI i)]) (λ⟨i,n⟩=>n) ?_ ?_ ?_ ?_;rotate_left 8
   .exact gF tI
   ·(try dsimp only);exact lR _
   .exact⟨by omega,T4,q,w⟩
   intro x_ af;obtain⟨i,n⟩:=x_;try dsimp only at af|-
   obtain⟨hi,T4,q,w⟩:=af;simp only[fm];by_cases a2:i<4
   .have be:zW ((i:Int)+1)=((i+1:Nat):Int):=bh (by omega);have h0:i=0∨i=1∨i=2∨i=3:=by omega
    rcases h0 with rfl|rfl|rfl|rfl
    .refine gO bm tI tI ?_;intro H l;have E:=q.own (b:= .cells 78 [zI 1,zI 2]) l;have G:=q.my l;have o:=λnp=>E.step (t:=1) (c:=2) (P:=kp g) (op:= .aJ) (np:=np) (X:=bu g (nM g) bp) (by rw[w];rfl) (by simp[bu];omega) (by omega) (UA V);simp only[Int.cast_ofNat_Int]at o;refine gO bm tI tI ?_;refine aj.of (o _) ?_ (λ_ _ h=>h.elim);rintro r n ⟨rfl,T5,F,D⟩;simp-implicitDefEqProofs;refine gO bm tI tI ?_;refine aH.mk ((1,n)) (by(try dsimp only);omega) (gF tI) gT ?_;try dsimp only
     refine⟨by omega,T5,F.drop (AS.ao (lR _) G),?_⟩;rw[D,w];simp[NV,Ho]
    .refine gO bm tI tI ?_;intro H l;have E:=q.own (b:= .cells 78 [zI 2,zI 4]) l;have G:=q.my l;have o:=λnp=>E.step (t:=2) (c:=4) (P:=kp g) (op:= .aJ) (np:=np) (X:=bM g (nM g) bp) (by rw[w];rfl) (by simp[bM,ef];omega) (by omega) (Uz V);simp only[Int.cast_ofNat_Int]at o;refine gO bm tI tI ?_;refine aj.of (o _) ?_ (λ_ _ h=>h.elim);rintro r n ⟨rfl,T5,F,D⟩;simp-implicitDefEqProofs;refine gO bm tI tI ?_;refine aH.mk ((2,n)) (by(try dsimp only);omega) (gF tI) gT ?_;try dsimp only
     refine⟨by omega,T5,F.drop (AS.ao (lR _) G),?_⟩;rw[D,w];simp[NV,Hm]
    .refine gO bm tI tI ?_;intro H l;have E:=q.own (b:= .cells 78 [zI 4,zI 0]) l;have G:=q.my l;have o:=λnp=>E.step (t:=4) (c:=0) (P:=kp g) (op:= .aJ) (np:=np) (X:=cw g bp) (by rw[w];rfl) (by simp[cw];omega) (by omega) (Uy V);simp only[Int.cast_ofNat_Int]at o;refine gO bm tI tI ?_;refine aj.of (o _) ?_ (λ_ _ h=>h.elim);rintro r n ⟨rfl,T5,F,D⟩;simp-implicitDefEqProofs;refine gO bm tI tI ?_;refine aH.mk ((3,n)) (by(try dsimp only);omega) (gF tI) gT ?_;try dsimp only
     refine⟨by omega,T5,F.drop (AS.ao (lR _) G),?_⟩;rw[D,w];simp[NV,LN]
    .refine gO bm tI tI ?_;intro H l;have E:=q.own (b:= .cells 78 [zI 5,zI 0]) l;have G:=q.my l;have o:=λnp=>E.step (t:=5) (c:=0) (P:=kp g) (op:= .aJ) (np:=np) (X:=cY g bp) (by rw[w];rfl) (by simp[cY];omega) (by omega) (Ux V);simp only[Int.cast_ofNat_Int]at o;refine gO bm tI tI ?_;refine aj.of (o _) ?_ (λ_ _ h=>h.elim);rintro r n ⟨rfl,T5,F,D⟩;simp-implicitDefEqProofs;refine gO bm tI tI ?_;refine aH.mk ((4,n)) (by(try dsimp only);omega) (gF tI) gT ?_;try dsimp only
     refine⟨by omega,T5,F.drop (AS.ao (lR _) G),?_⟩;rw[D,w];simp[NV,LO]
   obtain rfl:i=4:=by omega
   have bv:=q.aF;simp only[eh]at bv;clear a2 hi;have ap:cH T4=dE g (nM g) (pC g):=by rw[w];simp[NV,dE]
   have bs:=q.write (by rw[ap];exact nQ I _ _) (by rw[ap];exact zq _ _ _) (by rw[ap];exact nS _ _ _);rw[ap]at bs;have a4:A k.aF=none:=by obtain⟨eg,h9,_⟩:=q;exact(h9.I9).1
   refine gO bm @bv tI ?_;refine aj.of bs ?_ (λ_ _ h=>h.elim);intro r ei hW;rcases hW with⟨ai,tw,a0,rfl,rfl⟩|⟨ai,rfl,rfl⟩
   .have a3:dc g=pP (Rw.de (dE g (nM g) (pC g)) (g.entry+1)) (bR (jj g)).1 (bD (dm g)).1 (cI g).co:=by unfold dc;rw[if_neg (by simp[hF]),if_neg (by simp[y]),if_neg (by simp[L]),if_neg (by simp[ai])]
    have b4:(rm g).co=(cI g).co:=rfl;have a1:((A.set k.aF (.cells 74 (uz k g (rm g) (g.entry+1)))).set tw (.tok (Rw.de (dE g (nM g) (pC g)) (g.entry+1)).length)) k.aF=some (.cells 74 (uz k g (rm g) (g.entry+1))):=by rw[AS.ag _ _ (by rintro e;rw[<-e]at a0;simp at a0),AS.aD]
    have cd:A tw=none:=by
     by_cases e:tw=k.aF
     .rw[e];exact a4
     .rwa [AS.ag _ _ e]at a0
    have ak:AS.le σ ((A.set k.aF (.cells 74 (uz k g (rm g) (g.entry+1)))).set tw (.tok (Rw.de (dE g (nM g) (pC g)) (g.entry+1)).length)):=AS.le_trans Y (AS.ao (AS.ao (lR _) a4) cd);generalize ((A.set k.aF (.cells 74 (uz k g (rm g) (g.entry+1)))).set tw (.tok (Rw.de (dE g (nM g) (pC g)) (g.entry+1)).length))=S at*;have c5:(Rw.de (dE g (nM g) (pC g)) (g.entry+1)).length<=140737488355328:=by have:=wM (g.entry+1) (nQ I (nM g) (pC g)) rfl;omega
    have eb:=xj y;have ec:=xD L;generalize Rw.de (dE g (nM g) (pC g)) (g.entry+1)=W at*;simp only[eh,b4]at a1;have e5:(cI g).co.length<=100000000:=by have:=I.co g.ms.length;rwa [List.take_length]at this
    have b3:=λn1 n2 Q hL hb=>St.HY (W,false) ((bR (jj g)).1,n1) ((bD (dm g)).1,n2) ((cI g).co,Q) (.tok tw) .aJ .aJ (.tok k.tC) hL hb S;have b2:=λn1 n2 Q hL=>St.HX (W,false) ((bR (jj g)).1,n1) ((bD (dm g)).1,n2) ((cI g).co,Q) (.tok tw) .aJ .aJ (.tok k.tC) hL S;generalize (bR (jj g)).1=N at*;generalize (bD (dm g)).1=BB at*;generalize (cI g).co=CO at*;simp only[St.BF,St.sO]at b3 b2;simp-implicitDefEqProofs;by_cases u:65536<W.length∨65536<N.length∨65536<BB.length∨65536<CO.length
    .have hS:dc g=([],4):=by rw[a3,pP];exact if_pos (by rcases u with h|h|h|h<;>simp[h])
     repeat (first
      |refine g1 ?_
      |((first|refine g2 ?_ |((with_reducible apply dX 3 mO);refine dY mixed ?_)|((with_reducible apply aj.id);first|apply aj.aL (b3 _ _ _ ⟨c5,by show N.length<= _;omega,by show BB.length<= _;omega,by show CO.length<= _;omega⟩ u)));simp-implicitDefEqProofs [a1])
      |(refine g3 ?_;try simp-implicitDefEqProofs))
     exact⟨fV (by decide) hS,ak⟩
    .refine gO bm @a1 tI ?_;have b1:∀n1 n2 Q k,(St.fu (W,false) (N,n1) (BB,n2) (CO,Q) k).1=St.fu W N BB CO k:=λn1 n2 Q k=>St.z7 Prod.fst (W,false) (N,n1) (BB,n2) (CO,Q) k;refine aj.of (b2 _ _ _ ?_) ?_ (λ_ _ h=>h.elim)
     .intro j;rw[b1];simp only[not_or,Nat.not_lt]at u;unfold St.fu;split
      .exact u.1
      .exact u.2.1
      .exact u.2.2.1
      .exact u.2.2.2
     .simp only[b1];intro r σ' c9;rcases c9 with⟨hb,rfl,rfl⟩|⟨hb,tk,ck,rfl,rfl⟩
      .have hS:dc g=([],4):=by rw[a3,pP];exact if_pos (.inr (.inr (.inr (.inr hb))))
       simp-implicitDefEqProofs;refine gO bm tI tI ?_;exact⟨fV (by decide) hS,ak⟩
      .have hS:dc g=(St.jR (λk=>St.fu W N BB CO k),0):=by rw[a3,pP];exact if_neg (by simp only[not_or]at u|-;exact⟨u.1,u.2.1,u.2.2.1,u.2.2.2,hb⟩)
       simp-implicitDefEqProofs;refine gO bm tI tI ?_;unfold wm;rw[hS];exact⟨dt (by simp) (by simp),AS.le_trans ak (AS.ao (lR _) ck)⟩
   .have hS:dc g=([],4):=by unfold dc;rw[if_neg (by simp[hF]),if_neg (by simp[y]),if_neg (by simp[L]),if_pos ai]
    simp-implicitDefEqProofs;refine gO bm tI tI ?_;exact⟨fV (by decide) hS,AS.le_trans Y (AS.ao (lR _) a4)⟩
  .have hS:dc g=([],(bD (dm g)).2.2):=by unfold dc;rw[if_neg (by simp[hF]),if_neg (by simp[y]),if_pos L]
   refine gO bm (j3 @Z @y @L) (j2 @J @K) ?_;exact⟨fV L hS,AS.le_trans Y hJ.le⟩
 .have hS:dc g=([],(bR (jj g)).2.2):=by unfold dc;rw[if_neg (by simp[hF]),if_pos y]
  refine gO bm (j2 @Z @y) @J ?_;exact⟨fV y hS,AS.le_trans Y hJ.le⟩
end Im
end Go.Proofs.YtknalmoackcpbaaGreat
