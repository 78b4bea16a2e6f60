/- Package body: what reads, and gives up. -/
import Derived.Test.YtknalmoackcpbaaGreatFacts
set_option maxRecDepth 100000
set_option maxHeartbeats 3200000
set_option linter.all false
namespace Go.Proofs.YtknalmoackcpbaaGreat
namespace Bd
open Go Go.AW
theorem bW (S:List Nat):aH Tryz.prog [] S:=mixed
def s8 (e:Int):AV:= .rX 316 (.sc (.int .i64 e))
def jH (id:Nat):AV:= .agg [.ptr id 0]
def zk (b:List UInt8) (nl:Bool) (id:Nat) (e:Int) (σ:AS) (p:AV) (σ':AS):Prop:=p=s8 e∧ ∃a:Int,σ'=σ.set id (bC b a nl)
theorem ag.im {f:FuncId}{args:List AV}{b:List UInt8}{nl:Bool}{id:Nat}{e:Int}{d σ:AS}{K g:AV→AS→Prop}(h:aa Tryz.prog f args d No (zk b nl id e σ)) (i:∀a:Int,g (s8 e) (σ.set id (bC b a nl))):ag Tryz.prog (.sc (.func (.func f) #[] #[])) args d K g:=
 .of h (fun _ _ h=>h.elim) (fun r σ' h=>by obtain⟨rfl,a,rfl⟩:=h;exact i a)
theorem cw {b:List UInt8}{nl:Bool}{id:Nat}{e:Int}{σ:AS}{d:AV→AS→Prop}(h:∀a:Int,d (s8 e) (σ.set id (bC b a nl))):∀r σ',zk b nl id e σ r σ'→d r σ':=by rintro _ _ ⟨rfl,a,rfl⟩;exact h a
theorem ah {σ σ':AS}{i:Nat}{x:bN}(h:AS.le σ σ'):AS.le (σ.set i x) (σ'.set i x):=by
 intro j y d;by_cases e:j=i
 ·subst e;simpa[AS.set]using d
 ·simp[AS.set,e]at d⊢;exact h j y d
theorem fS {σ:AS}{i:Nat}{x:bN}(h:σ i=some x):σ.set i x=σ:=by
 funext j;by_cases e:j=i
 ·subst e;simp[AS.set,h]
 ·simp[AS.set,e]
def iA (b:List UInt8) (a n:Nat):Except Int (Int×Nat):=if a+n≤b.length then .ok (bj (cy b a n),a+n)else .error 1
def fH (b:List UInt8) (a:Nat) (c:Int):Except Int Nat:=
 match iA b a 1 with
 |.error e=> .error e
 |.ok (v,d)=>if v=c then .ok d else .error 2
def gY (b:List UInt8) (a:Nat) (n:Int):Except Int (List UInt8×Nat):=
 if n<1∨65535<n then .error 2 else if a+n≤b.length then .ok (cy b a n,a+n.toNat)else .error 1
theorem cH (e:Int) (σ:AS):aa Tryz.prog 239 [.sc (.bool true),.sc (.int .i64 e)] σ (ao (.bQ []) σ) No:=by refine aa.ob Tryz.func239 ?_;exact gE bW tI tI
theorem cE (e:Int) (σ:AS):aa Tryz.prog 239 [.sc (.bool false),.sc (.int .i64 e)] σ No (ao (s8 e) σ):=by refine aa.ob Tryz.func239 ?_;refine gO bW tI tI ?_;exact⟨σ,lR _,rfl,rfl⟩
theorem vF {b:List UInt8}{a n:Nat}{v:Int}{d:Nat}(h:iA b a n= .ok (v,d)):a+n≤b.length∧v=bj (cy b a n)∧d=a+n:=by
 unfold iA at h;split at h
 ·cases h;exact⟨by assumption,rfl,rfl⟩
 ·cases h
theorem Ck {b:List UInt8}{a n:Nat}{e:Int}(h:iA b a n= .error e):¬a+n≤b.length∧e=1:=by
 unfold iA at h;split at h
 ·cases h
 ·cases h;exact⟨by assumption,rfl⟩
theorem Lr {b:List UInt8}{a n:Nat}(h:a+n≤b.length) (i:n≤4):0≤bj (cy b a n)∧bj (cy b a n)<4294967296:=by
 refine⟨cu _,?_⟩;have h1:=jk (cy b a n);have g:(cy b a n).length=n:=by have:=eQ b a n (by omega) (by omega) (by omega);omega
 rw[g]at h1;generalize bj (cy b a n)=z at h1⊢;have d:n=0∨n=1∨n=2∨n=3∨n=4:=by omega
 rcases d with rfl|rfl|rfl|rfl|rfl<;>simp at h1<;>omega
theorem oQ (id:Nat) (b:List UInt8) (a n:Nat) (nl:Bool) (σ:AS) (h:σ id=some (bC b a nl)) (hl:b.length≤140737488355328) (hw:wide n=true) (q:n≤4) (v:Int) (l:Nat) (he:iA b a n= .ok (v,l)):
 aa Tryz.prog 268 [jH id,.sc (.int .i64 n)] σ (ao (.sc (.int .i64 v)) (σ.set id (bC b l nl))) No:=by
 obtain⟨h1,rfl,rfl⟩:=vF he;have u:=Lr h1 q;have j:IntKind.i64.wrap (bj (cy b a n))=bj (cy b a n):=ay (by omega) (by omega);have o:=fun σ h=>mc id b a n nl σ h (by omega) (by omega) hl hw (by omega);have g:=fun σ=>cH 0 σ;refine aa.ob Tryz.func268 ?_;simp only[jH];refine gO bW tI tI ?_;intro i d;have n1:id≠i:=nq h d;refine gO bW (j2 @n1 @h) (j2 @o @g) ?_;rw[j];exact⟨Wk.refl _,ah (aq d (lR _))⟩
theorem sM (id:Nat) (b:List UInt8) (a n:Nat) (nl:Bool) (σ:AS) (h:σ id=some (bC b a nl)) (ha:a≤b.length) (hl:b.length≤140737488355328) (hw:wide n=true) (e:Int) (he:iA b a n= .error e):
 aa Tryz.prog 268 [jH id,.sc (.int .i64 n)] σ No (zk b nl id e σ):=by
 obtain⟨h1,rfl⟩:=Ck he;have l:tJ b a n=1:=by simp[tJ,hw];omega
 have j:=fun σ h=>vz id b a n nl σ h (by omega) (by omega) hl (by omega);rw[l]at j;have g:=fun σ=>cE 1 σ;refine aa.ob Tryz.func268 ?_;simp only[jH];refine gO bW tI tI ?_;intro i d;have n1:id≠i:=nq h d;refine gO bW (j2 @n1 @h) (j2 @j @g) ?_;exact⟨σ,aq d (lR _),rfl,a,(fS h).symm⟩
theorem Cm {b:List UInt8}{a:Nat}{c:Int}{g:Nat}(h:fH b a c= .ok g):iA b a 1= .ok (c,g):=by
 unfold fH at h;cases d:iA b a 1 with
 |error e=>rw[d]at h;simp at h
 |ok v=>
  obtain⟨v,i⟩:=v;rw[d]at h;simp only at h;split at h
  ·rename_i e;subst e;cases h;rfl
  ·cases h
theorem yZ {b:List UInt8}{a:Nat}{c e:Int}(h:fH b a c= .error e):iA b a 1= .error e∨(e=2∧ ∃v i,iA b a 1= .ok (v,i)∧v≠c):=by
 unfold fH at h;cases d:iA b a 1 with
 |error e=>rw[d]at h;simp at h;subst h;exact .inl rfl
 |ok v=>
  obtain⟨v,g⟩:=v;rw[d]at h;simp only at h;split at h
  ·cases h
  ·cases h;exact .inr ⟨rfl,v,g,rfl,by assumption⟩
theorem Kk (id:Nat) (b:List UInt8) (a:Nat) (nl:Bool) (σ:AS) (h:σ id=some (bC b a nl)) (hl:b.length≤140737488355328) (c:Int) (j:Nat) (he:fH b a c= .ok j):
 aa Tryz.prog 270 [jH id,.sc (.int .i64 c)] σ (ao (.bQ []) (σ.set id (bC b j nl))) No:=by
 have l:=fun σ h=>oQ id b a 1 nl σ h hl (by decide) (by omega) c j (Cm he);have g:=fun σ=>cH 2 σ;refine aa.ob Tryz.func270 ?_;simp only[jH]at l⊢;refine gO bW tI tI ?_;intro i d;have n1:id≠i:=nq h d;refine gO bW (j2 @n1 @h) (j2 @l @g) ?_;exact ah (aq d (lR _))
theorem Hs (id:Nat) (b:List UInt8) (a:Nat) (nl:Bool) (σ:AS) (h:σ id=some (bC b a nl)) (ha:a≤b.length) (hl:b.length≤140737488355328) (c e:Int) (he:fH b a c= .error e):
 aa Tryz.prog 270 [jH id,.sc (.int .i64 c)] σ No (zk b nl id e σ):=by
 have i:=fun σ=>cE 2 σ;rcases yZ he with he|⟨rfl,v,o,he,n⟩
 ·have j:=fun σ h=>sM id b a 1 nl σ h ha hl (by decide) e he;refine aa.ob Tryz.func270 ?_;simp only[jH]at j⊢;refine gO bW tI tI ?_;intro g d;have n1:id≠g:=nq h d;have l:=aA n1;refine gO bW (j2 @n1 @h) @j ?_;refine cw ?_;intro x;exact⟨_,ah (aq d (lR _)),rfl,x,rfl⟩
 ·have j:=fun σ h=>oQ id b a 1 nl σ h hl (by decide) (by omega) v o he;refine aa.ob Tryz.func270 ?_;simp only[jH]at j⊢;refine gO bW tI tI ?_;intro g d;have n1:id≠g:=nq h d;have l:=aA n1;refine gO bW (j3 @n1 @h @n) (j2 @j @i) ?_;exact⟨_,ah (aq d (lR _)),rfl,_,rfl⟩
theorem xy (id:Nat) (b:List UInt8) (a:Nat) (nl:Bool) (σ:AS) (q:nl=true→b= []) (h:σ id=some (bC b a nl)) (hl:b.length≤140737488355328) (n:Int) (l:List UInt8) (A:Nat) (he:gY b a n= .ok (l,A)):
 aa Tryz.prog 269 [jH id,.sc (.int .i64 n)] σ (ao (.an 5 (l.map u8) .aE false) (σ.set id (bC b A nl))) No:=by
 have d:=fun e σ=>cH e σ;unfold gY at he;by_cases y:n<1∨65535<n
 ·rw[if_pos y]at he;cases he
 rw[if_neg y]at he;by_cases u:a+n≤b.length
 ·rw[if_pos u]at he;cases he;have w:0<n:=by omega
  have v:n≤65535:=by omega
  have j:nl=false:=by
   cases nl with
   |false=>rfl
   |true=>have:=q rfl;subst this;simp at u;omega
  subst j;have E:=fun σ h=>zw id b a n false σ (by simp) h (by omega) (by omega) hl (by omega) (by omega);refine aa.ob Tryz.func269 ?_;simp only[jH];refine gO bW tI tI ?_;intro o g;have n1:id≠o:=nq h g;refine gO bW (j2 @w @v) @d ?_;refine ag.of (E _ (by simp[AS.set,n1,h])) ?_ (fun _ _ h=>h.elim);rintro r F ⟨D,i,rfl,rfl⟩;simp-implicitDefEqProofs;refine gO bW (j2 @w @v) @d ?_;have e:(a:Int)+max n 0=a+n:=by omega
  have t1:D≠id:=by rintro rfl;simp[AS.set,n1,h]at i
  rw[e];exact aq (by simp[AS.set,t1]at i⊢;exact i) (ah (aq g (lR _)))
 ·rw[if_neg u]at he;cases he
theorem uu (id:Nat) (b:List UInt8) (a:Nat) (nl:Bool) (σ:AS) (h:σ id=some (bC b a nl)) (ha:a≤b.length) (hl:b.length≤140737488355328) (n e:Int) (he:gY b a n= .error e):
 aa Tryz.prog 269 [jH id,.sc (.int .i64 n)] σ No (zk b nl id e σ):=by
 have j:=fun e σ=>cH e σ;have g:=fun e σ=>cE e σ;unfold gY at he;by_cases v:n<1∨65535<n
 ·rw[if_pos v]at he;cases he;refine aa.ob Tryz.func269 ?_;simp only[jH];by_cases l:0<n
  ·have o:¬n≤65535:=by omega
   refine gO bW tI tI ?_;intro i d;refine gO bW (j2 @l @o) @g ?_;exact⟨σ,aq d (lR _),rfl,a,(fS h).symm⟩
  ·refine gO bW tI tI ?_;intro i d;refine gO bW @l @g ?_;exact⟨σ,aq d (lR _),rfl,a,(fS h).symm⟩
 rw[if_neg v]at he;by_cases u:a+n≤b.length
 ·rw[if_pos u]at he;cases he
 ·rw[if_neg u]at he;cases he;have l:0<n:=by omega
  have o:n≤65535:=by omega
  have w:pa b a n=1:=by simp[pa];omega
  have q:=fun σ h=>Bb id b a n nl σ h (by omega) (by omega) hl (by omega);rw[w]at q;refine aa.ob Tryz.func269 ?_;simp only[jH];refine gO bW tI tI ?_;intro i d;have n1:id≠i:=nq h d;refine gO bW (j4 @n1 @h @l @o) (j2 @j @q) ?_;refine gO bW tI @g ?_;exact⟨σ,aq d (lR _),rfl,a,(fS h).symm⟩
theorem AL (b:List UInt8) (nl:Bool) (id:Nat) (e:Int) (B:AS) (x:bN):zk b nl id e (B.set id x)=zk b nl id e B:=by funext p σ';simp[zk]
theorem Sl (id:Nat) (b:List UInt8) (a:Nat) (nl:Bool) (B:AS):aa Tryz.prog 99 [.ptr id 0] (B.set id (bC b a nl)) (ao (.sc (.int .i64 a)) (B.set id (bC b a nl))) No:=
 px id b a nl _ (by simp)
theorem xu (id:Nat) (b:List UInt8) (a n:Nat) (nl:Bool) (B:AS) (hl:b.length≤140737488355328) (hw:wide n=true) (g:n≤4) (v:Int) (d:Nat) (he:iA b a n= .ok (v,d)):
 aa Tryz.prog 268 [jH id,.sc (.int .i64 n)] (B.set id (bC b a nl)) (ao (.sc (.int .i64 v)) (B.set id (bC b d nl))) No:=by
 have h:=oQ id b a n nl (B.set id (bC b a nl)) (by simp) hl hw g v d he;simpa only[AS.set_set]using h
theorem uq (id:Nat) (b:List UInt8) (a n:Nat) (nl:Bool) (B:AS) (ha:a≤b.length) (hl:b.length≤140737488355328) (hw:wide n=true) (e:Int) (he:iA b a n= .error e):
 aa Tryz.prog 268 [jH id,.sc (.int .i64 n)] (B.set id (bC b a nl)) No (zk b nl id e B):=by
 have h:=sM id b a n nl (B.set id (bC b a nl)) (by simp) ha hl hw e he;rwa [AL]at h
theorem lO (id:Nat) (b:List UInt8) (a:Nat) (nl:Bool) (B:AS) (hl:b.length≤140737488355328) (c:Int) (d:Nat) (he:fH b a c= .ok d):
 aa Tryz.prog 270 [jH id,.sc (.int .i64 c)] (B.set id (bC b a nl)) (ao (.bQ []) (B.set id (bC b d nl))) No:=by
 have h:=Kk id b a nl (B.set id (bC b a nl)) (by simp) hl c d he;simpa only[AS.set_set]using h
theorem ki (id:Nat) (b:List UInt8) (a:Nat) (nl:Bool) (B:AS) (ha:a≤b.length) (hl:b.length≤140737488355328) (c e:Int) (he:fH b a c= .error e):
 aa Tryz.prog 270 [jH id,.sc (.int .i64 c)] (B.set id (bC b a nl)) No (zk b nl id e B):=by
 have h:=Hs id b a nl (B.set id (bC b a nl)) (by simp) ha hl c e he;rwa [AL]at h
theorem Hw (id:Nat) (b:List UInt8) (a:Nat) (nl:Bool) (B:AS) (d:nl=true→b= []) (hl:b.length≤140737488355328) (n:Int) (l:List UInt8) (g:Nat) (he:gY b a n= .ok (l,g)):
 aa Tryz.prog 269 [jH id,.sc (.int .i64 n)] (B.set id (bC b a nl)) (ao (.an 5 (l.map u8) .aE false) (B.set id (bC b g nl))) No:=by
 have h:=xy id b a nl (B.set id (bC b a nl)) d (by simp) hl n l g he;simpa only[AS.set_set]using h
theorem Ef (id:Nat) (b:List UInt8) (a:Nat) (nl:Bool) (B:AS) (ha:a≤b.length) (hl:b.length≤140737488355328) (n e:Int) (he:gY b a n= .error e):
 aa Tryz.prog 269 [jH id,.sc (.int .i64 n)] (B.set id (bC b a nl)) No (zk b nl id e B):=by
 have h:=uu id b a nl (B.set id (bC b a nl)) (by simp) ha hl n e he;rwa [AL]at h
theorem bU (S:List Nat):aH Tryz.prog [] S:=mixed
def RD {α:Type}(x:Except Int (α×Nat)) (f:α→AV) (b:List UInt8) (nl:Bool) (id:Nat) (σ:AS) (r:AV) (σ':AS):Prop:= ∃v a,x= .ok (v,a)∧r=f v∧σ'=σ.set id (bC b (a:Nat) nl)
def TD {α:Type}(x:Except Int α) (b:List UInt8) (nl:Bool) (id:Nat) (σ:AS) (p:AV) (σ':AS):Prop:= ∃e,x= .error e∧zk b nl id e σ p σ'
theorem RD.ok {α:Type}{f:FuncId}{args:List AV}{x:Except Int (α×Nat)}{g:α→AV}{b:List UInt8}{nl:Bool}{id:Nat}{σ:AS}{v:α}{a:Nat}(h:aa Tryz.prog f args σ (RD x g b nl id σ) (TD x b nl id σ)) (d:x= .ok (v,a)):
 aa Tryz.prog f args σ (ao (g v) (σ.set id (bC b a nl))) No:=
 h.mono (fun r σ' i=>by obtain⟨l,n,h1,rfl,rfl⟩:=i;rw[d]at h1;cases h1;exact⟨rfl,rfl⟩) (fun p σ' j=>by obtain⟨e,h1,_⟩:=j;rw[d]at h1;cases h1)
theorem RD.bad {α:Type}{f:FuncId}{args:List AV}{x:Except Int (α×Nat)}{g:α→AV}{b:List UInt8}{nl:Bool}{id:Nat}{σ:AS}{e:Int}(h:aa Tryz.prog f args σ (RD x g b nl id σ) (TD x b nl id σ)) (d:x= .error e):
 aa Tryz.prog f args σ No (zk b nl id e σ):=
 h.mono (fun r σ' i=>by obtain⟨n,o,h1,_,_⟩:=i;rw[d]at h1;cases h1) (fun p σ' j=>by obtain⟨e,h1,l⟩:=j;rw[d]at h1;cases h1;exact l)
def p8 (b:List UInt8):Nat→Nat→Except Int Nat
 |0,a=> .ok a
 |k+1,a=>match fH b a 0 with
  |.error e=> .error e
  |.ok d=>p8 b k d
def jx (b:List UInt8):Nat→Nat→Except Int (List Int×Nat)
 |0,a=> .ok ([],a)
 |k+1,a=>match iA b a 2 with
  |.error e=> .error e
  |.ok (v,g)=>match jx b k g with
   |.error e=> .error e
   |.ok (l,d)=> .ok (v::l,d)
def r6 (l:List Int):R6:=⟨l.getD 0 0,l.getD 1 0,l.getD 2 0,l.getD 3 0,l.getD 4 0,l.getD 5 0⟩
def jw (b:List UInt8):Nat→Nat→Except Int (List R6×Nat)
 |0,a=> .ok ([],a)
 |k+1,a=>match jx b 6 a with
  |.error e=> .error e
  |.ok (l,g)=>match jw b k g with
   |.error e=> .error e
   |.ok (rs,d)=> .ok (r6 l::rs,d)
def eI (b:List UInt8) (fr a:Nat):Except Int (List R6×Nat):=
 match p8 b ((4-(a-fr)%4)%4) a with
 |.error e=> .error e
 |.ok j=>match fH b j 1 with
  |.error e=> .error e
  |.ok i=>match iA b i 1 with
   |.error e=> .error e
   |.ok (n,h)=>if n<1∨6<n then .error 2 else match fH b h 0 with
    |.error e=> .error e
    |.ok g=>match fH b g 0 with
     |.error e=> .error e
     |.ok d=>jw b n.toNat d
def pre {α:Type}(d:List α):Except Int (List α×Nat)→Except Int (List α×Nat)
 |.error e=> .error e
 |.ok (l,a)=> .ok (d++l,a)
theorem IV (b:List UInt8) (d:List Int) (k a:Nat):pre d (jx b (k+1) a)=match iA b a 2 with|.error e=> .error e|.ok (v,g)=>pre (d++ [v]) (jx b k g):=by
 simp only[jx];cases iA b a 2 with
 |error e=>rfl
 |ok x=>
  obtain⟨v,g⟩:=x;simp only;cases jx b k g with
  |error e=>rfl
  |ok y=>obtain⟨l,h⟩:=y;simp[pre]
theorem IU (b:List UInt8) (d:List R6) (k a:Nat):pre d (jw b (k+1) a)=match jx b 6 a with|.error e=> .error e|.ok (l,g)=>pre (d++ [r6 l]) (jw b k g):=by
 simp only[jw];cases jx b 6 a with
 |error e=>rfl
 |ok x=>
  obtain⟨v,g⟩:=x;simp only;cases jw b k g with
  |error e=>rfl
  |ok y=>obtain⟨l,h⟩:=y;simp[pre]
theorem nN {b:List UInt8}{a n:Nat}{v:Int}{d:Nat}(h:iA b a n= .ok (v,d)):a≤d∧d≤b.length:=by obtain⟨h1,_,rfl⟩:=vF h;omega
theorem iU {b:List UInt8}{a:Nat}{c:Int}{d:Nat}(h:fH b a c= .ok d):d=a+1∧d≤b.length:=by obtain⟨h1,_,rfl⟩:=vF (Cm h);omega
theorem uo (l:List Int) (hl:l.length=6) (σ:AS):aa Tryz.prog 276 [.agg (l.map aV)] σ (ao (dz (r6 l)) σ) No:=by
 match l,hl with
 |[a,b,c,d,e,f],_ =>refine aa.ob Tryz.func276 ?_;simp[aG,r6,dz];refine gO bU tI tI ?_;intro id j;refine gO bU tI tI ?_;intro n g i;have h:=aA g;refine gO bU h tI ?_;all_goals (repeat (first|exact lR _ |refine aq (by simp[j,i,g]) ?_))
def W2 (b:List UInt8) (nl:Bool) (fr:Nat) (id d:Nat) (X:Except Int Nat) (B:AS) (m:Nat) (f:Fr) (σ':AS):Prop:=
 ∃a:Nat,m=(4-(a-fr)%4)%4∧fr≤a∧a≤b.length∧p8 b m a=X∧σ'=B.set id (bC b a nl)∧
  f=jJ [(1,.sc (.int .i64 fr)),(2,.ptr d 0)]
def W3 (b:List UInt8) (nl:Bool) (n:Nat) (id h:Nat) (X:Except Int (List R6×Nat)) (B:AS) (m:Nat) (f:Fr) (σ':AS):Prop:=
 ∃(i a:Nat) (d:List R6) (v:AV) (D:AS),m=n-i∧i≤n∧a≤b.length∧d.length=i∧pre d (jw b (n-i) a)=X∧
  ((i=0∧v= .ai∧D=B)∨(∃g,0<i∧B g=none∧v= .an 221 (d.map dz) (.tok g) false∧D=B.set g (.tok i)))∧σ'=D.set id (bC b a nl)∧
  f=jJ [(2,.ptr h 0),(6,v),(33,.sc (.int .i64 n)),(34,.sc (.int .i64 i))]
def W4 (b:List UInt8) (nl:Bool) (n i:Nat) (id g id3:Nat) (v:AV) (X:Except Int (List Int×Nat)) (D:AS) (m:Nat) (f:Fr) (σ':AS):Prop:=
 ∃(k a:Nat) (d:List Int),m=6-k∧k≤6∧a≤b.length∧d.length=k∧pre d (jx b (6-k) a)=X∧
  σ'=(D.set id3 (.cells 230 (d.map aV++List.replicate (6-k) (aV 0)))).set id (bC b a nl)∧
  f=jJ [(2,.ptr g 0),(6,v),(7,.ptr id3 0),(33,.sc (.int .i64 n)),(34,.sc (.int .i64 i)),(36,.sc (.int .i64 k))]
theorem OV {B B':AS}{id id3 g:Nat}{R C T:bN}(h:∀j,j≠g→B' j=B j) (n:B id3=none) (n1:g≠id):AS.le ((B.set g T).set id R) (((B'.set id3 C).set id R).set g T):=by
 intro j x i;by_cases d:j=g
 ·subst d;simpa[AS.set,n1]using i
 ·by_cases l:j=id
  ·subst l;simpa[AS.set,d]using i
  ·have o:j≠id3:=by rintro rfl;simp[AS.set,d,l,n]at i
   simp[AS.set,d,l]at i;simp[AS.set,d,l,o,h j d,i]
theorem CC (id:Nat) (b:List UInt8) (fr a:Nat) (nl:Bool) (σ:AS) (h:σ id=some (bC b a nl)) (ha:a≤b.length) (hf:fr≤a) (hl:b.length≤140737488355328):
 aa Tryz.prog 271 [jH id,.sc (.int .i64 fr)] σ (RD (eI b fr a) (fun l=> .an 221 (l.map dz) .aE false) b nl id σ) (TD (eI b fr a) b nl id σ):=by
 have S:=fun e σ=>cH e σ;have bc:=fun e σ=>cE e σ;refine aa.ob Tryz.func271 ?_;simp only[jH];refine gO bU tI tI ?_;intro L O;have n1:id≠L:=nq h O;have E:=aA n1;refine gO bU tI tI ?_;generalize hB:σ.set L (.cells 324 [.ptr id 0])=B;have be:B id=some (bC b a nl):=by rw[←hB];simp[n1,h]
 have u:B L=some (.cells 324 [.ptr id 0]):=by rw[←hB];simp
 refine ae.dx (W2 b nl fr id L (p8 b ((4-(a-fr)%4)%4) a) B) (k0:=(4-(a-fr)%4)%4) ⟨a,rfl,hf,ha,rfl,rfl,rfl⟩ (aS.mk (by simp)) (by rw[fS be];exact lR _) ?_;rintro m f σ' ⟨T,hm,h1,h2,G,rfl,rfl⟩;have I:IntKind.i64.wrap ((T:Int)-fr)=((T-fr:Nat):Int):=by rw[ay (by omega) (by omega)];omega
 have H:((T-fr:Nat):Int).tmod 4=(((T-fr)%4:Nat):Int):=by rw[Int.tmod_eq_emod_of_nonneg (by omega)];omega
 have K:=Sl id b T nl B;cases m with
 |succ m=>
  have V:(((T-fr:Nat):Int)%4=0)=False:=by simp;omega
  simp only[p8]at G;cases Q:fH b T 0 with
  |error e=>
   rw[Q]at G;simp only at G;have o:=ki id b T nl B h2 hl 0 e Q;refine gO bU (j5 @I @H @V @E @u) (j2 @K @o) ?_;refine cw ?_;intro x;refine⟨_,?_,e,?_,rfl,x,rfl⟩
   ·rw[←hB];exact ah (aq O (lR _))
   ·simp only[eI,←G]
  |ok a2=>rw[Q]at G;simp only at G;obtain⟨rfl,hlen⟩:=iU Q;have o:=lO id b T nl B hl 0 _ Q;refine gO bU (j5 @I @H @V @E @u) (j2 @K @o) ?_;refine⟨m,_,_,by omega,aS.mk (by simp),lR _,T+1,by omega,by omega,by omega,G,by simp,rfl⟩
 |zero=>
  have V:(((T-fr:Nat):Int)%4=0)=True:=by simp;omega
  simp only[p8]at G;have A:eI b fr a=match fH b T 1 with
   |.error e=> .error e
   |.ok a2=>match iA b a2 1 with
    |.error e=> .error e
    |.ok (n,a3)=>if n<1∨6<n then .error 2 else match fH b a3 0 with
     |.error e=> .error e
     |.ok a4=>match fH b a4 0 with
      |.error e=> .error e
      |.ok a5=>jw b n.toNat a5:=by simp only[eI,←G]
  clear G;generalize eI b fr a=X at A⊢;have hle:∀x:Nat,AS.le (σ.set id (bC b x nl)) (B.set id (bC b x nl)):=fun x=>by rw[←hB];exact ah (aq O (lR _))
  have U:∀x:Int,AS.le (σ.set id (bC b x nl)) (B.set id (bC b x nl)):=fun x=>by rw[←hB];exact ah (aq O (lR _))
  have no:∀e,X= .error e→ ∀x:Int,∃σ',AS.le σ' (B.set id (bC b x nl))∧TD X b nl id σ (s8 e) σ':=fun e he x=>⟨_,U x,e,he,rfl,x,rfl⟩;cases Q:fH b T 1 with
  |error e=>rw[Q]at A;have o:=ki id b T nl B h2 hl 1 e Q;refine gO bU (j5 @I @H @V @E @u) (j2 @K @o) ?_;refine cw ?_;exact no e A
  |ok a2=>
  rw[Q]at A;simp only at A;have o:=lO id b T nl B hl 1 _ Q;have l2:=iU Q;cases hN:iA b a2 1 with
  |error e=>rw[hN]at A;have M:=uq id b a2 1 nl B l2.2 hl (by decide) e hN;refine gO bU (j5 @I @H @V @E @u) (j3 @K @o @M) ?_;refine cw ?_;exact no e A
  |ok x=>
  obtain⟨n,a3⟩:=x;rw[hN]at A;simp only at A;have M:=xu id b a2 1 nl B hl (by decide) (by omega) n a3 hN;have l3:=nN hN;by_cases hn:n<1∨6<n
  ·rw[if_pos hn]at A;by_cases Y:0<n
   ·have ac:¬n≤6:=by omega
    refine gO bU (j7 @I @H @V @E @u @Y @ac) (j4 @K @o @M @bc) ?_;exact no 2 A _
   ·refine gO bU (j6 @I @H @V @E @u @Y) (j4 @K @o @M @bc) ?_;exact no 2 A _
  rw[if_neg hn]at A;have Y:0<n:=by omega
  have ac:n≤6:=by omega
  cases ab:fH b a3 0 with
  |error e=>rw[ab]at A;have af:=ki id b a3 nl B (by omega) hl 0 e ab;refine gO bU (j7 @I @H @V @E @u @Y @ac) (j5 @K @o @M @S @af) ?_;refine cw ?_;exact no e A
  |ok a4=>
  rw[ab]at A;simp only at A;have af:=lO id b a3 nl B hl 0 _ ab;have l4:=iU ab;cases Z:fH b a4 0 with
  |error e=>rw[Z]at A;have av:=ki id b a4 nl B (by omega) hl 0 e Z;refine gO bU (j7 @I @H @V @E @u @Y @ac) (j6 @K @o @M @S @af @av) ?_;refine cw ?_;exact no e A
  |ok a5=>
  rw[Z]at A;simp only at A;have av:=lO id b a4 nl B hl 0 _ Z;have l5:=iU Z;refine gO bU (j7 @I @H @V @E @u @Y @ac) (j6 @K @o @M @S @af @av) ?_;obtain⟨N,rfl⟩:∃N:Nat,n=N:=⟨n.toNat,by omega⟩;simp only[Int.toNat_natCast]at A;refine ae.dx (W3 b nl N id L X B) (k0:=N) ⟨0,a5,[],.ai,B,by omega,by omega,l5.2,rfl,by rw[A];cases jw b N a5<;>rfl,.inl ⟨rfl,rfl,rfl⟩,rfl,rfl⟩ (aS.mk (by simp)) (lR _) ?_;clear A Z av ab af hN M Q o K I H V hle;rintro m f σ' ⟨i,a6,d,v,D,hm,hi,l6,hd,G,hD,rfl,rfl⟩;have b0:D L=some (.cells 324 [.ptr id 0]):=by
   rcases hD with⟨_,_,rfl⟩|⟨tk,_,J,_,rfl⟩
   ·exact u
   ·have:L≠tk:=by rintro rfl;rw[u]at J;cases J
    simp[this,u]
  have a9:∀x:bN,AS.le (B.set id x) (D.set id x):=by
   intro x;rcases hD with⟨_,_,rfl⟩|⟨tk,_,J,_,rfl⟩
   ·exact lR _
   ·exact ah (aq J (lR _))
  by_cases dl:i<N
  ·have hI:((i:Int)<N)=True:=by simp;omega
   have bs:N-i=(N-i-1)+1:=by omega
   rw[bs,IU]at G;refine gO bU hI tI ?_;intro id3 g F;have q:=aA g;have n3:¬L=id3:=nq b0 F;have c6:=aA n3;refine gO bU tI tI ?_;have al:∀x y:bN,((D.set id x).set id3 y)=((D.set id3 y).set id x):=by
    intro x y;funext j;by_cases e1:j=id
    ·subst e1;simp[AS.set,q]
    ·by_cases e2:j=id3
     ·subst e2;simp[AS.set,e1]
     ·simp[AS.set,e1,e2]
   have a0:∀x y:bN,((D.set id3 y).set id x)=((D.set id x).set id3 y):=fun x y=>(al x y).symm;have ch:∀x y z:bN,(((D.set id3 z).set id x).set id3 y)=((D.set id3 y).set id x):=by
    intro x y z;funext j;by_cases e1:j=id
    ·subst e1;simp[AS.set,q]
    ·by_cases e2:j=id3
     ·subst e2;simp[AS.set,e1]
     ·simp[AS.set,e1,e2]
   generalize c1:jx b 6 a6=E6 at G;refine ae.dx (W4 b nl N i id L id3 v E6 D) (k0:=6) ⟨0,a6,[],rfl,by omega,l6,rfl,by rw[←c1];cases jx b 6 a6<;>rfl,rfl,rfl⟩ (aS.mk (by simp)) ?_ ?_
   ·rw[al];exact lR _
   rintro m2 f σ' ⟨k,a7,nm,M,hk,l7,b6,P,rfl,rfl⟩;by_cases dn:k<6
   ·have hK:((k:Int)<6)=True:=by simp;omega
    have ar:6-k=(6-k-1)+1:=by omega
    rw[ar,IV]at P;cases Q:iA b a7 2 with
    |error e=>rw[Q]at P;have o:=uq id b a7 2 nl (D.set id3 (.cells 230 (nm.map aV++List.replicate (6-k) (aV 0)))) l7 hl (by decide) e Q;refine gO bU (j6 @hK @b0 @E @n3 g q) @o ?_;refine cw ?_;intro x;simp only at P;subst P;simp only at G;refine no e G.symm x|>.imp fun σ' h=>⟨AS.le_trans h.1 (AS.le_trans (a9 _) (by rw[a0];exact aq (by simp[AS.set,g,F]) (lR _))),h.2⟩
    |ok y=>
     obtain⟨w,a8⟩:=y;rw[Q]at P;simp only at P;have o:=xu id b a7 2 nl (D.set id3 (.cells 230 (nm.map aV++List.replicate (6-k) (aV 0)))) hl (by decide) (by omega) w a8 Q;refine gO bU (j6 @hK @b0 @E @n3 g q) @o ?_;have bv:List.take k (nm.map aV++List.replicate (6-k) (aV 0))++(.sc (.int .i64 w))::List.drop (k+1) (nm.map aV++List.replicate (6-k) (aV 0))=(nm++ [w]).map aV++List.replicate (6-(k+1)) (aV 0):=by
      have e1:List.take k (nm.map aV++List.replicate (6-k) (aV 0))=nm.map aV:=by rw[List.take_append_of_le_length (by simp;omega),List.take_of_length_le (by simp;omega)]
      have e2:List.drop (k+1) (nm.map aV++List.replicate (6-k) (aV 0))=List.replicate (6-(k+1)) (aV 0):=by rw[List.drop_append,List.drop_of_length_le (by simp;omega),List.nil_append];simp[b6];omega
      rw[e1,e2];simp[aG]
     rw[bv];clear hD;refine⟨m2-1,_,_,by omega,aS.mk ?_,lR _,k+1,a8,nm++ [w],by omega,by omega,(nN Q).2,by simp;omega,P,rfl,rfl⟩;simp[g8 (show k<4000000000000000000 by omega)]
   ·have hK:((k:Int)<6)=False:=by simp;omega
    obtain rfl:k=6:=by omega
    simp only[Nat.sub_self,List.replicate_zero,List.append_nil,jx,pre]at P⊢;have h6:List.take 6 (nm.map aV)=nm.map aV:=List.take_of_length_le (by simp;omega);rw[←P]at G;simp only at G;have ca:=fun σ=>uo nm b6 σ;rcases hD with⟨h0,rfl,rfl⟩|⟨tk,dp,J,rfl,rfl⟩
    ·obtain rfl:d= []:=List.length_eq_zero_iff.1 (by omega);refine gO bU (j3 @h6 @dz.eq_1 g) @ca ?_;intro tk t1 t3 J;have b5:=aA t1;have ap:=aA t3;refine gO bU tI tI ?_;clear a9 no U;refine⟨m-1,_,_,by omega,aS.mk ?_,OV (B:=D) (B':=D) (id3:=id3) (fun _ _ =>rfl) F t1,1,a7,[r6 nm],_,_,by omega,by omega,l7,rfl,?_,.inr ⟨tk,by omega,J,rfl,rfl⟩,rfl,rfl⟩
     ·simp[h0,show IntKind.i64.wrap 1=1 from by kernel_rfl,dz]
     ·rw[←G,h0];rfl
    ·have t1:¬tk=id:=nq be J;have t3:¬tk=id3:=by rintro rfl;simp[AS.set]at F
     have b5:=aA t1;have ap:=aA t3;have h3:B id3=none:=by simpa[AS.set,ap]using F
     refine gO bU (j8 @h6 @dz.eq_1 @t1 @b5 @t3 @ap @hd g) @ca ?_;clear a9 no U;refine⟨m-1,_,_,by omega,aS.mk ?_,ah (aq (by simp[AS.set,ap,h3]) (lR _)),i+1,a7,d++ [r6 nm],_,_,by omega,by omega,l7,by simp[hd],?_,.inr ⟨tk,by omega,J,rfl,rfl⟩,rfl,rfl⟩
     ·simp[g8 (show i<4000000000000000000 by omega),dz]
     ·exact G
  ·have hI:((i:Int)<N)=False:=by simp;omega
   have V:N-i=0:=by omega
   rw[V]at G;simp only[jw,pre,List.append_nil]at G;refine gO bU hI tI ?_;refine⟨.an 221 (d.map dz) .aE false,_,?_,AS.le_trans (U _) (a9 _),d,a6,G.symm,rfl,rfl⟩;rcases hD with⟨h0,_,_⟩|⟨tk,_,J,rfl,_⟩
   ·omega
   ·simp
abbrev dH:b7:=(.alt 0 (.alt 1 (.alt 2 (.alt 3 (.step 4 (.alt 5 (.alt 6 .done .none) .none)) (.alt 5 (.alt 3 (.step 4 (.alt 6 .done .none)) .none) .none)) (.alt 5 (.alt 2 (.alt 3 (.step 4 (.alt 6 .done .none)) .none) .none) .none)) (.alt 5 (.read 1 (.alt 2 (.alt 3 (.step 4 (.alt 6 .done .none)) .none) .none)) .none)) (.alt 1 (.alt 0 (.alt 2 (.alt 3 (.step 4 (.alt 5 (.alt 6 .done .none) .none)) (.alt 5 (.alt 3 (.step 4 (.alt 6 .done .none)) .none) .none)) (.alt 5 (.alt 2 (.alt 3 (.step 4 (.alt 6 .done .none)) .none) .none) .none)) (.alt 2 (.alt 0 (.alt 3 (.step 4 (.alt 5 (.alt 6 .done .none) .none)) (.alt 5 (.alt 3 (.step 4 (.alt 6 .done .none)) .none) .none)) (.alt 5 (.read 0 (.alt 3 (.step 4 (.alt 6 .done .none)) .none)) .none)) (.alt 5 (.alt 0 (.alt 2 (.alt 3 (.step 4 (.alt 6 .done .none)) .none) .none) (.alt 2 (.read 0 (.alt 3 (.step 4 (.alt 6 .done .none)) .none)) .none)) .none))) (.alt 5 (.read 1 (.alt 0 (.alt 2 (.alt 3 (.step 4 (.alt 6 .done .none)) .none) .none) (.alt 2 (.read 0 (.alt 3 (.step 4 (.alt 6 .done .none)) .none)) .none))) .none)))
theorem bA (S:List Nat):aH Tryz.prog [(9,dH)] S:=mixed
def iB (b:List UInt8) (fr:Nat):Except Int ((List UInt8×List R6)×Nat):=
 match iA b fr 1 with
 |.error e=> .error e
 |.ok (c,h)=>
  if c%4=2 then
   match gY b h (c/4)with
   |.error e=> .error e
   |.ok (l,d)=> .ok ((l,[]),d)
  else if ¬((c=3∨c=11)∧fr%4=0)then .error 2 else
  match p8 b 3 h with
  |.error e=> .error e
  |.ok d=>match iA b d 4 with
   |.error e=> .error e
   |.ok (n,j)=>match gY b j n with
    |.error e=> .error e
    |.ok (l,g)=>
     if c=11 then
      match eI b fr g with
      |.error e=> .error e
      |.ok (rs,i)=> .ok ((l,rs),i)
     else if l.length<64 then .error 2 else .ok ((l,[]),g)
def Pw (x:List UInt8×List R6):AV:=za x.1 x.2 .aE .aE (decide (x.1= [])) (decide (x.2= []))
theorem G9 {b:List UInt8} :∀ {k a:Nat}{l:List R6}{g:Nat},jw b k a= .ok (l,g)→l.length=k:=by
 intro k;induction k with
 |zero=>intro a l g h;simp[jw]at h;simp[←h.1]
 |succ k i=>
  intro a l g h;simp only[jw]at h;cases h1:jx b 6 a with
  |error e=>rw[h1]at h;simp at h
  |ok x=>
   obtain⟨x,j⟩:=x;rw[h1]at h;simp only at h;cases d:jw b k j with
   |error e=>rw[d]at h;simp at h
   |ok y=>obtain⟨y,n⟩:=y;rw[d]at h;simp at h;have:=i d;simp[←h.1,this]
theorem uS {b:List UInt8}{fr a:Nat}{l:List R6}{d:Nat}(h:eI b fr a= .ok (l,d)):l≠ []∧l.length≤6:=by
 unfold eI at h;split at h
 ·cases h
 ·split at h
  ·cases h
  ·split at h
   ·cases h
   ·split at h
    ·cases h
    ·rename_i g;split at h
     ·cases h
     ·split at h
      ·cases h
      ·have:=G9 h;refine⟨?_,by omega⟩;rintro rfl;simp at this;omega
def Ri (I:Fr→AS→Prop) (s:Fr) (σ:AS):Prop:= ∃s1 d,aS Tryz.prog s s1∧AS.le d σ∧I s1 d
theorem ae.meet {n:Nat}{ds:List Deferred}{c y:Code}{Q g:AQ}{s:Fr}{σ:AS}(I:Fr→AS→Prop) (h1:ae Tryz.prog n ds c (dP (Ri I) g) s σ) (j:∀s1 d,I s1 d→ae Tryz.prog n ds y Q s1 d):ae Tryz.prog n ds c (dP (ae Tryz.prog n ds y Q) g) s σ:=
 ae.mono h1 fun e s σ h=>by
  cases e with
  |normal=>obtain⟨s1,d,q,o,l⟩:=h;exact(j s1 d l).weaken q o
  |exit i=>exact h
  |ret=>exact h
  |panic v=>exact h
theorem wS {B:AS}{id id6:Nat}{i g C:bN}(h:B id6=none):AS.le (B.set id g) (((B.set id i).set id6 C).set id g):=by
 intro j x d;by_cases e:j=id
 ·subst e;simpa[AS.set]using d
 ·simp[AS.set,e]at d;have:j≠id6:=by rintro rfl;rw[h]at d;cases d
  simp[AS.set,e,this,d]
def VZ (b:List UInt8) (nl:Bool) (fr c:Int) (id g d:Nat) (X:Except Int Nat) (B:AS) (m:Nat) (f:Fr) (σ':AS):Prop:=
 ∃(i a:Nat),m=3-i∧i≤3∧a≤b.length∧fr≤(a:Int)∧p8 b (3-i) a=X∧σ'=B.set id (bC b a nl)∧
  f=jJ [(1,.sc (.int .i64 fr)),(2,.ptr g 0),(4,.ptr d 0),(5,.sc (.int .i64 c)),(29,.sc (.int .i64 i))]
theorem sG {b:List UInt8}{a:Nat}{n:Int}{l:List UInt8}{d:Nat}(h:gY b a n= .ok (l,d)):l≠ []:=by
 unfold gY at h;split at h
 ·cases h
 ·split at h
  ·cases h;have:=eQ b a n (by omega) (by omega) (by omega);intro e;rw[e]at this;simp at this;omega
  ·cases h
theorem gb {b:List UInt8}{a:Nat}{n:Int}{l:List UInt8}{d:Nat}(h:gY b a n= .ok (l,d)):a≤d∧d≤b.length:=by
 unfold gY at h;split at h
 ·cases h
 ·split at h
  ·cases h;omega
  ·cases h
def VY (b:List UInt8) (nl:Bool) (fr c:Int) (o id g d:Nat) (B:AS) (s1:Fr) (j:AS):Prop:=
 ∃n i l h id6,iA b o 4= .ok (n,i)∧gY b i n= .ok (l,h)∧B id6=none∧s1=jJ [(1,.sc (.int .i64 fr)),(2,.ptr g 0),(4,.ptr d 0),(5,.sc (.int .i64 c)),(6,.ptr id6 0)]∧
  j=(B.set id (bC b (h:Nat) nl)).set id6 (.cells 219 [.an 5 (l.map u8) .aE false,.ai])
theorem Kw (id:Nat) (b:List UInt8) (fr:Nat) (nl:Bool) (a9:nl=true→b= []) (σ:AS) (h:σ id=some (bC b fr nl)) (ha:fr≤b.length) (hl:b.length≤140737488355328):
 aa Tryz.prog 250 [jH id,.sc (.int .i64 fr)] σ (RD (iB b fr) Pw b nl id σ) (TD (iB b fr) b nl id σ):=by
 have v:=fun e σ=>cH e σ;have F:=fun e σ=>cE e σ;refine aa.ob Tryz.func250 ?_;simp only[jH];refine gO (S:= [9]) bA tI tI ?_;intro o U;have n1:id≠o:=nq h U;have u:=aA n1;refine gO (S:= [9]) bA tI tI ?_;intro E H T;have P:=aA H;have n4:id≠E:=nq h T;have Z:=aA n4;obtain⟨B,b4,d,V,b5,hle,ar⟩:∃B:AS,((σ.set o (.cells 324 [.ptr id 0])).set E (.cells 219 [.ai,.ai]))=B.set id (bC b fr nl)∧B o=some (.cells 324 [.ptr id 0])∧B E=some (.cells 219 [.ai,.ai])∧B id≠none∧(∀x:Int,AS.le (σ.set id (bC b x nl)) (B.set id (bC b x nl)))∧ ∀(x:Int) (y:bN),AS.le (σ.set id (bC b x nl)) ((B.set id (bC b x nl)).set E y):=by
  refine⟨_,(fS (by simp[AS.set,n1,n4,h])).symm,by simp[P],by simp,by simp[AS.set,n1,n4,h],fun x=>ah (aq (by simp[AS.set,H,T]) (aq U (lR _))),fun x y=> ?_⟩;intro j z hz;by_cases e1:j=id
  ·subst e1;simpa[AS.set,n4]using hz
  ·have e2:j≠E:=by rintro rfl;simp[AS.set,e1,T]at hz
   have e3:j≠o:=by rintro rfl;simp[AS.set,e1,U]at hz
   simp[AS.set,e1]at hz;simp[AS.set,e1,e2,e3,hz]
 simp only[b4];clear b4;have no:∀e,iB b fr= .error e→ ∀x:Int,∃σ',AS.le σ' (B.set id (bC b x nl))∧TD (iB b fr) b nl id σ (s8 e) σ':=fun e he x=>⟨_,hle x,e,he,rfl,x,rfl⟩;have g:iB b fr=iB b fr:=rfl
 conv at g=>rhs;unfold iB
 generalize iB b fr=X at g no⊢;cases hN:iA b fr 1 with
 |error e=>rw[hN]at g;have G:=uq id b fr 1 nl B ha hl (by decide) e hN;refine gO (S:= [9]) bA (j2 @u @d) @G ?_;refine cw ?_;exact no e g
 |ok y=>
 obtain⟨c,a1⟩:=y;rw[hN]at g;simp only at g;have G:=xu id b fr 1 nl B hl (by decide) (by omega) c a1 hN;have l1:=nN hN;have hc:0≤c∧c<256:=by
  obtain⟨h1,rfl,_⟩:=vF hN;have h2:=jk (cy b fr 1);have h3:(cy b fr 1).length=1:=by have:=eQ b fr 1 (by omega) (by omega) (by omega);omega
  rw[h3]at h2;exact⟨cu _,by simpa using h2⟩
 have Q:IntKind.i64.wrap (lF 64 c 3)=c%4:=by have:=jA (w:=64) (a:=c) 2 hc.1 (by omega) (by omega);rw[show(2:Int)^2-1=3 from by decide,show(2:Int)^2=4 from by decide]at this;rw[this,ay (by omega) (by omega)]
 have c5:IntKind.i64.wrap (c/4)=c/4:=ay (by omega) (by omega);have kq:E≠id:=Z;by_cases h2:c%4=2
 ·rw[if_pos h2]at g;cases A:gY b a1 (c/4)with
  |error e=>rw[A]at g;have I:=Ef id b a1 nl B l1.2 hl _ e A;refine gO (S:= [9]) bA (j6 @u @Z @d @V @Q @h2) (j2 @G @I) ?_;refine cw ?_;exact no e g
  |ok y=>
   obtain⟨l,K⟩:=y;rw[A]at g;simp only at g;have I:=Hw id b a1 nl B a9 hl _ l K A;refine gO (S:= [9]) bA (j6 @u @Z @d @V @Q @h2) (j2 @G @I) ?_;refine⟨Pw (l,[]),σ.set id (bC b K nl),?_,?_,(l,[]),K,g,rfl,rfl⟩
   ·exact lH (by simp[sG A]) (by simp)
   ·exact ar _ _
 rw[if_neg h2]at g;by_cases h3:(c=3∨c=11)∧fr%4=0
 ·rw[if_neg (by simpa using h3)]at g;have am:((fr:Int).tmod 4)=((fr%4:Nat):Int):=by rw[Int.tmod_eq_emod_of_nonneg (by omega)];omega
  have d2:((fr:Int)%4=0)=True:=by simp;omega
  have d3:c=3∨(¬c=3∧c=11):=by omega
  generalize hP:p8 b 3 a1=EP at g;rcases d3 with rfl|⟨d4,rfl⟩
  ·refine gO (S:= [9]) bA (j5 @u @d @Q @am @d2) (j2 @G @v) ?_;refine ae.dx (VZ b nl fr 3 id o E EP B) (k0:=3) ⟨0,a1,rfl,by omega,l1.2,by omega,hP,rfl,rfl⟩ (aS.mk (by simp)) (lR _) ?_;rintro m f σ' ⟨i,K,hm,hi,l2,ci,L,rfl,rfl⟩;by_cases cl:i<3
   ·have hI:((i:Int)<3)=True:=by simp;omega
    rw[show 3-i=(2-i)+1 by omega]at L;simp only[p8]at L;cases A:fH b K 0 with
    |error e=>rw[A]at L;have I:=ki id b K nl B l2 hl 0 e A;refine gO (S:= [9]) bA (j3 hI @u @d) @I ?_;refine cw ?_;refine no e ?_;rw[g,←L]
    |ok J=>rw[A]at L;simp only at L;have I:=lO id b K nl B hl 0 J A;refine gO (S:= [9]) bA (j3 hI @u @d) @I ?_;clear g;refine⟨m-1,_,_,by omega,aS.mk ?_,lR _,i+1,J,by omega,by omega,(iU A).2,by have:=iU A;omega,by rw[←L];congr 1;omega,rfl,rfl⟩;simp[g8 (show i<4000000000000000000 by omega)]
   ·have hI:((i:Int)<3)=False:=by simp;omega
    obtain rfl:i=3:=by omega
    simp only[Nat.sub_self,p8]at L;rw[←L]at g;simp only at g;refine gO (S:= [9]) bA tI tI ?_;refine ae.meet (VY b nl fr 3 K id o E B) ?_ ?_
    ·cases A:iA b K 4 with
     |error e=>
      rw[A]at g;have O:=no e g;clear g no G v F
      (((with_reducible apply ae.aR (id:=9) (t:=dH));(exact mixed);kernel_rfl;kernel_rfl;(repeat (with_reducible first|apply ak.then|apply ak.block|apply ak.body|apply ak.no)));simp-implicitDefEqProofs [u,d])
      all_goals
       repeat' (first
        |(with_reducible apply j2)
        |(intro id6 u6 v6;have M:¬o=id6:=(by rintro rfl;rw[d]at v6;cases v6);have ac:¬id6=o:=(fun e=>M e.symm);have af:¬id=id6:=(fun e=>u6 e.symm);try simp-implicitDefEqProofs [M])
        |(simp-implicitDefEqProofs [show ¬id6=id by assumption])
        |(refine ag.im (sM id b K 4 nl _ (by simp[AS.set, *]) l2 hl (by decide) e A) ?_;simp-implicitDefEqProofs))
      all_goals
       intro x;exact(O x).imp fun σ' h=>⟨AS.le_trans h.1 (by first|exact lR _ |exact wS (by assumption)|exact aq (by simp[AS.set, *]) (lR _)),h.2⟩
     |ok y=>
      obtain⟨n,J⟩:=y;rw[A]at g;simp only at g;have l3:=nN A;cases D:gY b J n with
      |error e=>
       rw[D]at g;have O:=no e g;clear g no G v F
       (((with_reducible apply ae.aR (id:=9) (t:=dH));(exact mixed);kernel_rfl;kernel_rfl;(repeat (with_reducible first|apply ak.then|apply ak.block|apply ak.body|apply ak.no)));simp-implicitDefEqProofs [u,d])
       all_goals
        repeat' (first
         |(with_reducible apply j2)
         |(intro id6 u6 v6;have M:¬o=id6:=(by rintro rfl;rw[d]at v6;cases v6);have ac:¬id6=o:=(fun e=>M e.symm);have af:¬id=id6:=(fun e=>u6 e.symm);try simp-implicitDefEqProofs [M])
         |(simp-implicitDefEqProofs [show ¬o=id6 by assumption,show ¬id6=id by assumption])
         |(refine ag.aC (oQ id b K 4 nl _ (by simp[AS.set, *]) hl (by decide) (by omega) n J A) ?_;simp-implicitDefEqProofs [u,d])
         |(refine ag.im (uu id b J nl _ (by simp[AS.set, *]) l3.2 hl n e D) ?_;simp-implicitDefEqProofs))
       all_goals
        intro x;exact(O x).imp fun σ' h=>⟨AS.le_trans h.1 (by first|exact lR _ |exact wS (by assumption)|exact aq (by simp[AS.set, *]) (lR _)),h.2⟩
      |ok y=>
       obtain⟨l,Y⟩:=y;clear g no G v F
       (((with_reducible apply ae.aR (id:=9) (t:=dH));(exact mixed);kernel_rfl;kernel_rfl;(repeat (with_reducible first|apply ak.then|apply ak.block|apply ak.body|apply ak.no)));simp-implicitDefEqProofs [u,d])
       all_goals
        repeat' (first
         |(with_reducible apply j2)
         |(intro id6 u6 v6;have M:¬o=id6:=(by rintro rfl;rw[d]at v6;cases v6);have ac:¬id6=o:=(fun e=>M e.symm);have af:¬id=id6:=(fun e=>u6 e.symm);try simp-implicitDefEqProofs [M])
         |(simp-implicitDefEqProofs [show ¬o=id6 by assumption,show ¬id6=id by assumption])
         |(refine ag.aC (oQ id b K 4 nl _ (by simp[AS.set, *]) hl (by decide) (by omega) n J A) ?_;simp-implicitDefEqProofs [u,d])
         |(refine ag.aC (xy id b J nl _ a9 (by simp[AS.set, *]) hl n l Y D) ?_;simp-implicitDefEqProofs))
       all_goals
        refine⟨_,_,aS.mk (by simp),?_,n,J,l,Y,id6,A,D,by assumption,rfl,rfl⟩;first|exact lR _ |skip
    ·rintro s1 σ1 ⟨n,J,l,Y,id6,A,D,h6,rfl,rfl⟩;rw[A]at g;simp only at g;rw[D]at g;simp only at g;have l4:Y≤b.length:=(gb D).2;have w1:¬id6=id:=by rintro rfl;exact b5 h6
     have bv:=aA w1;have w2:¬id6=o:=nq d h6;have a8:=aA w2;have w4:¬id6=E:=nq V h6;have a6:=aA w4;have ap:∀(x:Int) (y z:bN),AS.le (σ.set id (bC b x nl)) (((B.set id (bC b x nl)).set id6 y).set E z):=by
      intro x y z j q hj;have h1:=ar x z j q hj;by_cases e:j=id6
      ·subst e;simp[AS.set,w1,w4,h6]at h1
      ·by_cases e4:j=E
       ·subst e4;simpa[AS.set]using h1
       ·simpa[AS.set,e,e4]using h1
     by_cases b6:l.length<64
     ·rw[if_neg (by omega),if_pos b6]at g;have a0:((l.length:Int)<64)=True:=by simp;omega
      refine gO (S:= [9]) bA @a0 (j2 @pH @F) ?_;exact(no 2 g Y).imp fun σ' h=>⟨AS.le_trans h.1 (aq (by simp[AS.set,w1,h6]) (lR _)),h.2⟩
     ·rw[if_neg (by omega),if_neg b6]at g;have a0:((l.length:Int)<64)=False:=by simp;omega
      refine gO (S:= [9]) bA (j4 @Z @V @a6 @a0) (j2 @pH @v) ?_;exact⟨Pw (l,[]),σ.set id (bC b Y nl),lH (by simp[sG D]) (by simp),ap _ _ _,(l,[]),Y,g,rfl,rfl⟩
  ·refine gO (S:= [9]) bA (j5 @u @d @Q @am @d2) (j2 @G @v) ?_;refine ae.dx (VZ b nl fr 11 id o E EP B) (k0:=3) ⟨0,a1,rfl,by omega,l1.2,by omega,hP,rfl,rfl⟩ (aS.mk (by simp)) (lR _) ?_;rintro m f σ' ⟨i,K,hm,hi,l2,ci,L,rfl,rfl⟩;by_cases cl:i<3
   ·have hI:((i:Int)<3)=True:=by simp;omega
    rw[show 3-i=(2-i)+1 by omega]at L;simp only[p8]at L;cases A:fH b K 0 with
    |error e=>rw[A]at L;have I:=ki id b K nl B l2 hl 0 e A;refine gO (S:= [9]) bA (j3 hI @u @d) @I ?_;refine cw ?_;refine no e ?_;rw[g,←L]
    |ok J=>rw[A]at L;simp only at L;have I:=lO id b K nl B hl 0 J A;refine gO (S:= [9]) bA (j3 hI @u @d) @I ?_;clear g;refine⟨m-1,_,_,by omega,aS.mk ?_,lR _,i+1,J,by omega,by omega,(iU A).2,by have:=iU A;omega,by rw[←L];congr 1;omega,rfl,rfl⟩;simp[g8 (show i<4000000000000000000 by omega)]
   ·have hI:((i:Int)<3)=False:=by simp;omega
    obtain rfl:i=3:=by omega
    simp only[Nat.sub_self,p8]at L;rw[←L]at g;simp only at g;refine gO (S:= [9]) bA tI tI ?_;refine ae.meet (VY b nl fr 11 K id o E B) ?_ ?_
    ·cases A:iA b K 4 with
     |error e=>
      rw[A]at g;have O:=no e g;clear g no G v F
      (((with_reducible apply ae.aR (id:=9) (t:=dH));(exact mixed);kernel_rfl;kernel_rfl;(repeat (with_reducible first|apply ak.then|apply ak.block|apply ak.body|apply ak.no)));simp-implicitDefEqProofs [u,d])
      all_goals
       repeat' (first
        |(with_reducible apply j2)
        |(intro id6 u6 v6;have M:¬o=id6:=(by rintro rfl;rw[d]at v6;cases v6);have ac:¬id6=o:=(fun e=>M e.symm);have af:¬id=id6:=(fun e=>u6 e.symm);try simp-implicitDefEqProofs [M])
        |(simp-implicitDefEqProofs [show ¬id6=id by assumption])
        |(refine ag.im (sM id b K 4 nl _ (by simp[AS.set, *]) l2 hl (by decide) e A) ?_;simp-implicitDefEqProofs))
      all_goals
       intro x;exact(O x).imp fun σ' h=>⟨AS.le_trans h.1 (by first|exact lR _ |exact wS (by assumption)|exact aq (by simp[AS.set, *]) (lR _)),h.2⟩
     |ok y=>
      obtain⟨n,J⟩:=y;rw[A]at g;simp only at g;have l3:=nN A;cases D:gY b J n with
      |error e=>
       rw[D]at g;have O:=no e g;clear g no G v F
       (((with_reducible apply ae.aR (id:=9) (t:=dH));(exact mixed);kernel_rfl;kernel_rfl;(repeat (with_reducible first|apply ak.then|apply ak.block|apply ak.body|apply ak.no)));simp-implicitDefEqProofs [u,d])
       all_goals
        repeat' (first
         |(with_reducible apply j2)
         |(intro id6 u6 v6;have M:¬o=id6:=(by rintro rfl;rw[d]at v6;cases v6);have ac:¬id6=o:=(fun e=>M e.symm);have af:¬id=id6:=(fun e=>u6 e.symm);try simp-implicitDefEqProofs [M])
         |(simp-implicitDefEqProofs [show ¬o=id6 by assumption,show ¬id6=id by assumption])
         |(refine ag.aC (oQ id b K 4 nl _ (by simp[AS.set, *]) hl (by decide) (by omega) n J A) ?_;simp-implicitDefEqProofs [u,d])
         |(refine ag.im (uu id b J nl _ (by simp[AS.set, *]) l3.2 hl n e D) ?_;simp-implicitDefEqProofs))
       all_goals
        intro x;exact(O x).imp fun σ' h=>⟨AS.le_trans h.1 (by first|exact lR _ |exact wS (by assumption)|exact aq (by simp[AS.set, *]) (lR _)),h.2⟩
      |ok y=>
       obtain⟨l,Y⟩:=y;clear g no G v F
       (((with_reducible apply ae.aR (id:=9) (t:=dH));(exact mixed);kernel_rfl;kernel_rfl;(repeat (with_reducible first|apply ak.then|apply ak.block|apply ak.body|apply ak.no)));simp-implicitDefEqProofs [u,d])
       all_goals
        repeat' (first
         |(with_reducible apply j2)
         |(intro id6 u6 v6;have M:¬o=id6:=(by rintro rfl;rw[d]at v6;cases v6);have ac:¬id6=o:=(fun e=>M e.symm);have af:¬id=id6:=(fun e=>u6 e.symm);try simp-implicitDefEqProofs [M])
         |(simp-implicitDefEqProofs [show ¬o=id6 by assumption,show ¬id6=id by assumption])
         |(refine ag.aC (oQ id b K 4 nl _ (by simp[AS.set, *]) hl (by decide) (by omega) n J A) ?_;simp-implicitDefEqProofs [u,d])
         |(refine ag.aC (xy id b J nl _ a9 (by simp[AS.set, *]) hl n l Y D) ?_;simp-implicitDefEqProofs))
       all_goals
        refine⟨_,_,aS.mk (by simp),?_,n,J,l,Y,id6,A,D,by assumption,rfl,rfl⟩;first|exact lR _ |skip
    ·rintro s1 σ1 ⟨n,J,l,Y,id6,A,D,h6,rfl,rfl⟩;rw[A]at g;simp only at g;rw[D]at g;simp only at g;have l4:Y≤b.length:=(gb D).2;have w1:¬id6=id:=by rintro rfl;exact b5 h6
     have bv:=aA w1;have w2:¬id6=o:=nq d h6;have a8:=aA w2;have w4:¬id6=E:=nq V h6;have a6:=aA w4;have ap:∀(x:Int) (y z:bN),AS.le (σ.set id (bC b x nl)) (((B.set id (bC b x nl)).set id6 y).set E z):=by
      intro x y z j q hj;have h1:=ar x z j q hj;by_cases e:j=id6
      ·subst e;simp[AS.set,w1,w4,h6]at h1
      ·by_cases e4:j=E
       ·subst e4;simpa[AS.set]using h1
       ·simpa[AS.set,e,e4]using h1
     rw[if_pos trivial]at g;have b2:=CC id b fr Y nl ((B.set id (bC b Y nl)).set id6 (.cells 219 [.an 5 (l.map u8) .aE false,.ai])) (by simp[bv]) l4 (by have:=nN A;have:=gb D;omega) hl;cases hE:eI b fr Y with
     |error e=>rw[hE]at g;have av:=RD.bad b2 hE;refine gO (S:= [9]) bA (j7 @u @Z @d @V @w1 @a8 @a6) (j2 @v @av) ?_;refine cw ?_;intro x;exact(no e g x).imp fun σ' h=>⟨AS.le_trans h.1 (by first|exact wS h6|exact aq (by simp[AS.set,w1,h6]) (lR _)),h.2⟩
     |ok y=>obtain⟨rs,a5⟩:=y;rw[hE]at g;simp only at g;have av:=RD.ok b2 hE;refine gO (S:= [9]) bA (j7 @u @Z @d @V @w1 @a8 @a6) (j2 @v @av) ?_;have ck:=uS hE;refine⟨Pw (l,rs),σ.set id (bC b a5 nl),lH (by simp[sG D]) (by simp[ck.1]),?_,(l,rs),a5,g,rfl,rfl⟩;exact ap _ _ _
 ·rw[if_pos (by simpa using h3)]at g;have am:((fr:Int).tmod 4)=((fr%4:Nat):Int):=by rw[Int.tmod_eq_emod_of_nonneg (by omega)];omega
  by_cases d1:c=3
  ·have d2:((fr:Int)%4=0)=False:=by simp;omega
   subst d1;refine gO (S:= [9]) bA (j5 @u @d @Q @am @d2) (j2 @G @F) ?_;exact no 2 g _
  ·by_cases d3:c=11
   ·have d2:((fr:Int)%4=0)=False:=by simp;omega
    subst d3;refine gO (S:= [9]) bA (j5 @u @d @Q @am @d2) (j2 @G @F) ?_;exact no 2 g _
   ·refine gO (S:= [9]) bA (j6 @u @d @Q @h2 @d1 @d3) (j2 @G @F) ?_;exact no 2 g _
abbrev pg:b7:=(.step 1 (.read 2 (.alt 0 (.alt 3 (.alt 4 (.alt 5 (.alt 6 .done .none) .none) .none) .none) (.alt 3 (.read 0 (.alt 4 (.alt 5 (.alt 6 .done .none) .none) .none)) .none))))
theorem zn (S:List Nat):aH Tryz.prog [] S:=mixed
theorem dG (S:List Nat):aH Tryz.prog [(7,pg)] S:=mixed
def fD (b:List UInt8) (d:Int):(List UInt8×List R6)×Int×Int:=
 if d<0∨b.length<d then(([],[]),0,3)else
 match iB b d.toNat with
 |.error e=>(([],[]),0,e)
 |.ok (x,a)=>(x,a,0)
theorem Dy (j i h:Nat) (σ:AS) (K:AS→Prop) (g:K σ):bS Tryz.prog 249 [.ptr j 0,.ptr i 0,.ptr h 0] σ none K:=by
 refine bS.of Tryz.func249 rfl rfl (by simp[Tryz.ntmps249]) (by simp[Tryz.ntmps249]) ?_;refine br.sp rfl (il.mS (by simp[Tryz.ntmps249]) Tryz.underlying316 trivial (by kernel_rfl) rfl ?_);refine br.rest ?_;have d:aw Tryz.prog 316= .sc (.int .i64 0):=by kernel_rfl
 simp-implicitDefEqProofs [d,Tryz.ntmps249];refine gO zn tI tI ?_;exact g
theorem Dx (h g d:Nat) (e:Int) (u q o n:AV) (σ:AS) (K:AS→Prop) (A:σ h=some (.cells 219 [u,q])) (y:σ g=some (.cells 3 [o])) (w:σ d=some (.cells 31 [n])) (l:h≠g) (j:h≠d) (i:g≠d)
 (v:K (((σ.set h (.cells 219 [.ai,.ai])).set g (.cells 3 [.sc (.int .i64 0)])).set d (.cells 31 [.sc (.int .i64 e)]))):
 bS Tryz.prog 249 [.ptr h 0,.ptr g 0,.ptr d 0] σ (some (s8 e)) K:=by
 refine bS.of Tryz.func249 rfl rfl (by simp[Tryz.ntmps249]) (by simp[Tryz.ntmps249]) ?_;refine br.sp rfl (il.oR (by simp[Tryz.ntmps249]) Tryz.underlying316 trivial rfl ?_);refine br.rest ?_;simp-implicitDefEqProofs [Tryz.ntmps249];refine gO zn (j8 @s8.eq_1 @recV.eq_1 @A @y @w @l.symm @j.symm @i.symm) tI ?_;exact v
def Ua:AQ:=fun _ _ _ =>False
theorem ak.no:ak Ua:=fun _ _ _ _ h=>h
theorem ae.sure {n:Nat}{ds:List Deferred}{c:Code}{K:Fr→AS→Prop}{Q:AQ}{s:Fr}{σ:AS}(h:ae Tryz.prog n ds c (dP K Ua) s σ):ae Tryz.prog n ds c (dP K Q) s σ:=
 ae.mono h fun e s σ h=>by
  cases e with
  |normal=>exact h
  |exit i=>exact h.elim
  |ret=>exact h.elim
  |panic v=>exact h.elim
theorem Ki (b:List UInt8) (o:cL) (nl:Bool) (w:Int) (am:nl=true→b= []) (hl:b.length≤140737488355328) (σ:AS):
 aa Tryz.prog 213 [.an 5 (b.map u8) o nl,.sc (.int .i64 w)] σ (ao (.bQ [Pw (fD b w).1,.sc (.int .i64 (fD b w).2.1),.sc (.int .i64 (fD b w).2.2)]) σ) No:=by
 refine aa.jj Tryz.func213 rfl rfl (by simp[Tryz.ntmps213]) (fun G1=> ?_);apply lg.seq;have X:Tryz.f213.ntmps=32:=rfl;simp-implicitDefEqProofs only[X];refine gO dG tI tI ?_;intro E I;refine gO dG tI tI ?_;intro id5 n H;have u:=aA n;refine gO dG tI tI ?_;intro id6 d g G;have i:=aA d;have q:=aA g;apply lg.seq;simp-implicitDefEqProofs only[X];by_cases hr:w<0∨b.length<w
 ·have Y:fD b w=(([],[]),0,3):=by simp only[fD];rw[if_pos hr]
  rw[Y];by_cases c1:w<0
  ·refine gO dG (j7 @c1 n u d i g q) tI ?_;exact⟨jB (lH (by simp) (by simp)) (by simp) (by simp),aq (by simp[AS.set,d,g,G]) (aq (by simp[AS.set,n,H]) (aq I (lR _)))⟩
  ·have c2:(b.length:Int)<w:=by omega
   refine gO dG (j8 @c1 @c2 n u d i g q) tI ?_;exact⟨jB (lH (by simp) (by simp)) (by simp) (by simp),aq (by simp[AS.set,d,g,G]) (aq (by simp[AS.set,n,H]) (aq I (lR _)))⟩
 ·have Y:fD b w=match iB b w.toNat with
   |.error e=>(([],[]),0,e)
   |.ok (x,a)=>(x,(a:Int),0):=by unfold fD;rw[if_neg hr]
  obtain⟨A,rfl⟩:∃A:Nat,w=A:=⟨w.toNat,by omega⟩;have c1:((A:Int)<0)=False:=by simp
  have c2:((b.length:Int)<A)=False:=by simp;omega
  simp only[Int.toNat_natCast]at Y;refine gO dG (j8 @c1 @c2 n u d i g q) tI ?_;apply lg.defer (by simp) (by decide+kernel);intro D;simp-implicitDefEqProofs only[X];refine gO dG tI tI ?_;obtain⟨B,a3,af,ac,ab,hle⟩:∃B:AS,(((σ.set E (.cells 219 [.ai,.ai])).set id5 (.cells 3 [.sc (.int .i64 0)])).set id6 (.cells 31 [.sc (.int .i64 0)]))=B∧B E=some (.cells 219 [.ai,.ai])∧B id5=some (.cells 3 [.sc (.int .i64 0)])∧B id6=some (.cells 31 [.sc (.int .i64 0)])∧
   ∀S:AS,(∀j,j≠E→j≠id5→j≠id6→ ∀y,B j=some y→S j=some y)→AS.le σ S:=by
   refine⟨_,rfl,by simp[u,q],by simp[i],by simp,?_⟩;intro S h j x L;have U:j≠E:=nq I L;have T:j≠id5:=nq H L;have Q:j≠id6:=nq G L;exact h j U T Q x (by simp[AS.set,U,T,Q,L])
  simp only[a3];clear a3;refine ag.of (oH b o nl am hl _) ?_ (fun _ _ h=>h.elim);rintro r σ1 ⟨id,O,rfl,rfl⟩;have m4:¬E=id:=nq af O;have m5:¬id5=id:=nq ac O;have m6:¬id6=id:=nq ab O;have bb:=aA m4;have b4:=aA m5;have b3:=aA m6;simp-implicitDefEqProofs;refine gO dG tI tI ?_;intro K v F;have J:=aA v;have q4:¬E=K:=nq af F;have q5:¬id5=K:=nq ac F;have q6:¬id6=K:=nq ab F;have a9:=aA q4;have b2:=aA q5;have b1:=aA q6;obtain⟨C,ar,a2,a1,a0,Z,av,P⟩:∃C:AS,((B.set id (bC b 0 nl)).set K (.cells 324 [.ptr id 0]))=C∧C E=some (.cells 219 [.ai,.ai])∧C id5=some (.cells 3 [.sc (.int .i64 0)])∧C id6=some (.cells 31 [.sc (.int .i64 0)])∧C K=some (.cells 324 [.ptr id 0])∧C id=some (bC b 0 nl)∧
   ∀S:AS,(∀j,j≠E→j≠id5→j≠id6→j≠id→ ∀y,C j=some y→S j=some y)→AS.le σ S:=by
   refine⟨_,rfl,by simp[m4,q4,af],by simp[m5,q5,ac],by simp[m6,q6,ab],by simp,by simp[J],?_⟩;intro S h;refine hle S fun j U T Q y L=> ?_;have e1:j≠id:=nq O L;have e7:j≠K:=nq F L;exact h j U T Q e1 y (by simp[AS.set,e1,e7,L])
  simp only[ar];clear ar hle;have V:=zB id b 0 A nl C av (by omega) (by omega) hl (by omega) (by omega);rw[show(0:Int)+A=A by omega]at V;have ap:=Kw id b A nl am (C.set id (bC b A nl)) (by simp) (by omega) hl;cases hE:iB b A with
  |error e=>rw[hE]at Y;have M:=RD.bad ap hE;refine gO dG (j2 @Z v) (j2 @V @M) ?_;refine cw ?_;intro x;refine Dx E id5 id6 e .ai .ai (.sc (.int .i64 0)) (.sc (.int .i64 0)) _ _ (by simp[m4,a2]) (by simp[m5,a1]) (by simp[m6,a0]) u q i ?_;simp-implicitDefEqProofs [u,q,i,Y];refine⟨jB (lH (by simp) (by simp)) (by simp) (by simp),P _ fun j U T Q e1 y L=> ?_⟩;simp[AS.set,U,T,Q,e1,L]
  |ok y=>
   obtain⟨⟨l,rs⟩,a⟩:=y;rw[hE]at Y;have M:=RD.ok ap hE;refine gO dG (j6 @m4 @a2 @Z @Pw.eq_1 @za.eq_1 v) (j2 @V @M) ?_;apply ae.sure
   (((with_reducible apply ae.aR (id:=7) (t:=pg));(exact mixed);kernel_rfl;kernel_rfl;(repeat (with_reducible first|apply ak.then|apply ak.block|apply ak.body|apply ak.no)));simp-implicitDefEqProofs [a9,Z,v])
   refine⟨?_,?_⟩;all_goals
    refine ag.aC (px id b a nl _ (by simp[bb])) ?_;simp-implicitDefEqProofs [m5,m6,a1,a0,n,g,d];refine gO dG tI tI ?_;refine Dy _ _ _ _ _ ?_;simp-implicitDefEqProofs [u,q,i,Y];refine P _ fun j U T Q e1 y L=> ?_;simp[AS.set,U,T,Q,e1,L]
end Bd
open Go Go.AW
theorem ld (S:List Nat):aH Tryz.prog [] S:=mixed
theorem ED {a b:Bool}(h:a=b):AV.Wk Tryz.prog (.sc (.bool a)) (.sc (.bool b)):=h ▸ Wk.refl _
structure Ty where
 kind:Int
 index:Int
 bt:Int
 ref:Bool
deriving DecidableEq
def cr (t:Ty):AV:= .agg [.sc (.int .i64 t.kind),.sc (.int .i64 t.index),.sc (.int .i64 t.bt),.sc (.bool t.ref)]
theorem Wl:Program.stoodInHeld Tryz.prog 200=false:=by kernel_rfl
theorem Wj:Program.stoodInHeld Tryz.prog 49=false:=by kernel_rfl
@[simp] theorem W1:Program.eqGuardType Tryz.prog Tryz.prog.depth 200=false:=by kernel_rfl
@[simp] theorem WZ:Program.eqGuardType Tryz.prog Tryz.prog.depth 49=false:=by kernel_rfl
@[simp] theorem WY (a b c i h g:Int) (r d:Bool):kg Tryz.prog 8 200 (.agg [.sc (.int .i64 a),.sc (.int .i64 b),.sc (.int .i64 c),.sc (.bool r)]) (.agg [.sc (.int .i64 i),.sc (.int .i64 h),.sc (.int .i64 g),.sc (.bool d)])=
 some (decide (a=i)&&(decide (b=h)&&(decide (c=g)&&(r==d)))):=by
 simp[kg,pY,Tryz.underlying200,Tryz.underlying3,Tryz.underlying4]
@[simp] theorem G8 (a b c i h g:Int) (r d:Bool):kg Tryz.prog 8 49 (.agg [.sc (.int .i64 a),.sc (.int .i64 b),.sc (.int .i64 c),.sc (.bool r)]) (.agg [.sc (.int .i64 i),.sc (.int .i64 h),.sc (.int .i64 g),.sc (.bool d)])=
 some (decide (a=i)&&(decide (b=h)&&(decide (c=g)&&(r==d)))):=by
 simp[kg,pY,Tryz.underlying49,Tryz.underlying3,Tryz.underlying4]
def bo (t:Ty):Bool:=
 if t.bt<0∨3<t.bt∨t.index<0 then false else
 if t.kind=1 then decide (t.bt=0)&&(!t.ref&&decide (t.index=0))else
 if t.kind=2∨t.kind=3∨t.kind=4 then decide (t.index=0)else
 if t.kind=5∨t.kind=6 then decide (t.index<32)else if t.kind=7 then decide (t.index≤7)else false
theorem DP (k:Int):k=1∨k=2∨k=3∨k=4∨k=5∨k=6∨k=7∨(¬k=1∧ ¬k=2∧ ¬k=3∧ ¬k=4∧ ¬k=5∧ ¬k=6∧ ¬k=7):=by omega
theorem tX (t:Ty) (σ:AS):aa Tryz.prog 194 [cr t] σ (ao (.sc (.bool (bo t))) σ) No:=by
 obtain⟨k,x,d,r⟩:=t;refine aa.ob Tryz.func194 ?_;simp only[cr];refine gO ld tI tI ?_;intro id g;rcases DP k with rfl|rfl|rfl|rfl|rfl|rfl|rfl|⟨k1,q,o,k4,n,l,j⟩
 rotate_right
 ·refine gO ld (j7 @k1 @q @o @k4 @n @l @j) tI ?_;simp[bo,k1,q,o,k4,n,l,j];all_goals (repeat (first|exact lR _ |refine aq (by simp[g]) ?_))
 ·refine gO ld tI tI ?_;have e:(decide (x=0)&&(decide (d=0)&&(r==false)))=bo ⟨1,x,d,r⟩:=by
   unfold bo;by_cases h:d<0∨3<d∨x<0
   ·rw[if_pos h];by_cases h1:x=0<;>by_cases i:d=0<;>first|(exfalso;omega)|simp[h1,i]
   ·rw[if_neg h];cases r<;>by_cases h1:x=0<;>by_cases i:d=0<;>simp[h1,i]
  simp[←e];all_goals (repeat (first|exact lR _ |refine aq (by simp[g]) ?_))
 all_goals
  by_cases d3:0≤x
  ·by_cases d4:x≤31<;>by_cases d5:x≤7<;>by_cases d6:x≤0<;>by_cases d1:0≤d;all_goals
    first
    |(exfalso;omega)
    |skip
    repeat (first
     |(with_reducible first|apply ae.seq|apply ae.block|refine j2 (by first|omega|assumption|decide) ?_)
     |((first|(with_reducible first|apply ae.fork|apply ae.region|show aN _ _ _ |show aB _ _ _ _ _ _ _ _ _));simp-implicitDefEqProofs [d1,d3,d4,d5,d6])
     |((with_reducible first|apply ae.ret|apply ae.skip|apply ae.exit);try simp-implicitDefEqProofs))
    try simp[bo]
    try (refine j2 (ED (by rw[Bool.eq_iff_iff];simp;omega)) ?_)
    all_goals (repeat (first|exact lR _ |refine aq (by simp[g]) ?_))
  ·refine gO ld @d3 tI ?_;try simp[bo]
   try (refine j2 (ED (by rw[Bool.eq_iff_iff];simp;omega)) ?_)
   all_goals (repeat (first|exact lR _ |refine aq (by simp[g]) ?_))
theorem qp (t:Ty) (σ:AS):aa Tryz.prog 139 [cr t] σ (ao (.sc (.bool (bo t))) σ) No:=by
 refine aa.ob Tryz.func139 ?_;have g:=fun σ=>tX t σ;cases i:bo t<;>obtain⟨k,x,d,r⟩:=t<;>rw[i]at g<;>simp only[cr]at g⊢;all_goals
  refine gO ld tI tI ?_;intro id h;refine gO ld tI @g ?_;all_goals (repeat (first|exact lR _ |refine aq (by simp[h]) ?_))
def bE (t:Ty):Bool:=bo t&& !decide (t.kind=1)
def dm (t:Ty):Bool:=bE t&& !t.ref
def dB (t:Ty):Bool:=bo t&& !t.ref
theorem qI (t:Ty) (σ:AS):aa Tryz.prog 183 [cr t] σ (ao (.sc (.bool (bE t))) σ) No:=by
 refine aa.ob Tryz.func183 ?_;have g:=fun σ=>tX t σ;cases i:bo t<;>obtain⟨k,x,d,r⟩:=t<;>rw[i]at g<;>simp only[cr]at g⊢;all_goals
  refine gO ld tI tI ?_;intro id h;refine gO ld tI @g ?_;try simp[bE,i]
  all_goals (repeat (first|exact lR _ |refine aq (by simp[h]) ?_))
theorem tY (t:Ty) (σ:AS):aa Tryz.prog 134 [cr t] σ (ao (.sc (.bool (dm t))) σ) No:=by
 refine aa.ob Tryz.func134 ?_;have g:=fun σ=>qI t σ;cases i:bE t<;>obtain⟨k,x,d,r⟩:=t<;>rw[i]at g<;>simp only[cr]at g⊢;all_goals
  refine gO ld tI tI ?_;intro id h;refine gO ld tI @g ?_;try simp[dm,i]
  all_goals (repeat (first|exact lR _ |refine aq (by simp[h]) ?_))
theorem oL (t:Ty) (σ:AS):aa Tryz.prog 191 [cr t] σ (ao (.sc (.bool (dB t))) σ) No:=by
 refine aa.ob Tryz.func191 ?_;have g:=fun σ=>tX t σ;cases i:bo t<;>obtain⟨k,x,d,r⟩:=t<;>rw[i]at g<;>simp only[cr]at g⊢;all_goals
  refine gO ld tI tI ?_;intro id h;refine gO ld tI @g ?_;try simp[dB,i]
  all_goals (repeat (first|exact lR _ |refine aq (by simp[h]) ?_))
end Go.Proofs.YtknalmoackcpbaaGreat
