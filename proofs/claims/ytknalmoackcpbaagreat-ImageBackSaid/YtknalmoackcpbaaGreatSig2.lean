/- Package sigs: what reads, and gives up. -/
import Derived.Test.YtknalmoackcpbaaGreatOct3
set_option maxRecDepth 100000
set_option maxHeartbeats 3200000
set_option linter.all false
namespace Go.Proofs.YtknalmoackcpbaaGreat
namespace Sg
open Go Go.AW
theorem cV (S:List Nat):aH Tryz.prog [] S:=mixed
def s8 (e:Int):AV:= .rX 272 (.sc (.int .i64 e))
def jH (id:Nat):AV:= .agg [.ptr id 0]
def zk (b:List UInt8) (nl:Bool) (id:Nat) (e:Int) (σ:AS) (p:AV) (σ':AS):Prop:=p=s8 e∧ ∃a:Int,σ'=σ.set id (bC b a nl)
theorem WU {f:FuncId}{args:List AV}{σ d:AS}{v:AV}{K g:AV→AS→Prop}(h:aa Tryz.prog f args σ No (ao v d)) (i:g v d):ag Tryz.prog (.sc (.func (.func f) #[] #[])) args σ K g:=
 .of h (fun _ _ h=>h.elim) (fun r σ' h=>by obtain⟨rfl,rfl⟩:=h;exact i)
theorem TQ {f:FuncId}{args:List AV}{b:List UInt8}{nl:Bool}{id:Nat}{e:Int}{d σ:AS}{K g:AV→AS→Prop}(h:aa Tryz.prog f args d No (zk b nl id e σ)) (i:∀a:Int,g (s8 e) (σ.set id (bC b a nl))):ag Tryz.prog (.sc (.func (.func f) #[] #[])) args d K g:=
 .of h (fun _ _ h=>h.elim) (fun r σ' h=>by obtain⟨rfl,a,rfl⟩:=h;exact i a)
theorem cw {b:List UInt8}{nl:Bool}{id:Nat}{e:Int}{σ:AS}{d:AV→AS→Prop}(h:∀a:Int,d (s8 e) (σ.set id (bC b a nl))):∀r σ',zk b nl id e σ r σ'→d r σ':=by rintro _ _ ⟨rfl,a,rfl⟩;exact h a
theorem ah {σ σ':AS}{i:Nat}{x:bN}(h:AS.le σ σ'):AS.le (σ.set i x) (σ'.set i x):=by
 intro j y d;by_cases e:j=i
 ·subst e;simpa[AS.set]using d
 ·simp[AS.set,e]at d⊢;exact h j y d
theorem fS {σ:AS}{i:Nat}{x:bN}(h:σ i=some x):σ.set i x=σ:=by
 funext j;by_cases e:j=i
 ·subst e;simp[AS.set,h]
 ·simp[AS.set,e]
def RD {α:Type}(x:Except Int (α×Nat)) (f:α→AV) (b:List UInt8) (nl:Bool) (id:Nat) (σ:AS) (r:AV) (σ':AS):Prop:= ∃v a,x= .ok (v,a)∧r=f v∧σ'=σ.set id (bC b (a:Nat) nl)
def TD {α:Type}(x:Except Int α) (b:List UInt8) (nl:Bool) (id:Nat) (σ:AS) (p:AV) (σ':AS):Prop:= ∃e,x= .error e∧zk b nl id e σ p σ'
theorem RD.ok {α:Type}{f:FuncId}{args:List AV}{x:Except Int (α×Nat)}{g:α→AV}{b:List UInt8}{nl:Bool}{id:Nat}{d σ:AS}{v:α}{a:Nat}(h:aa Tryz.prog f args d (RD x g b nl id σ) (TD x b nl id σ)) (i:x= .ok (v,a)):
 aa Tryz.prog f args d (ao (g v) (σ.set id (bC b a nl))) No:=
 h.mono (fun r σ' j=>by obtain⟨n,o,h1,rfl,rfl⟩:=j;rw[i]at h1;cases h1;exact⟨rfl,rfl⟩) (fun p σ' l=>by obtain⟨e,h1,_⟩:=l;rw[i]at h1;cases h1)
theorem RD.bad {α:Type}{f:FuncId}{args:List AV}{x:Except Int (α×Nat)}{g:α→AV}{b:List UInt8}{nl:Bool}{id:Nat}{d σ:AS}{e:Int}(h:aa Tryz.prog f args d (RD x g b nl id σ) (TD x b nl id σ)) (i:x= .error e):
 aa Tryz.prog f args d No (zk b nl id e σ):=
 h.mono (fun r σ' j=>by obtain⟨o,q,h1,_,_⟩:=j;rw[i]at h1;cases h1) (fun p σ' l=>by obtain⟨e,h1,n⟩:=l;rw[i]at h1;cases h1;exact n)
theorem RD.of {α:Type}{f:FuncId}{args:List AV}{x:Except Int (α×Nat)}{g:α→AV}{b:List UInt8}{nl:Bool}{id:Nat}{d σ:AS}
 (h1:∀v a,x= .ok (v,a)→aa Tryz.prog f args d (ao (g v) (σ.set id (bC b (a:Nat) nl))) No) (j:∀e,x= .error e→aa Tryz.prog f args d No (zk b nl id e σ)):aa Tryz.prog f args d (RD x g b nl id σ) (TD x b nl id σ):=by
 cases i:x with
 |error e=>exact(j e i).mono (fun _ _ h=>h.elim) (fun p σ' h=>⟨e,rfl,h⟩)
 |ok y=>obtain⟨v,a⟩:=y;exact(h1 v a i).mono (fun r σ' h=>by obtain⟨rfl,rfl⟩:=h;exact⟨v,a,rfl,rfl,rfl⟩) (fun _ _ h=>h.elim)
theorem cH (e:Int) (σ:AS):aa Tryz.prog 206 [.sc (.bool true),.sc (.int .i64 e)] σ (ao (.bQ []) σ) No:=by refine aa.ob Tryz.func206 ?_;exact gE cV tI tI
theorem cE (e:Int) (σ:AS):aa Tryz.prog 206 [.sc (.bool false),.sc (.int .i64 e)] σ No (ao (s8 e) σ):=by refine aa.ob Tryz.func206 ?_;refine gO cV tI tI ?_;exact⟨σ,lR _,rfl,rfl⟩
def sL (c:UInt8):AV:= .sc (.int .u8 c.toNat)
def JG (n:Int):AV:= .sc (.int .i64 n)
theorem J7 {b:List UInt8}{a:Nat}{c:UInt8}{d:Nat}(h:eB b a= .ok (c,d)):a<b.length∧d=a+1∧c=b.getD a 0:=by
 unfold eB at h;split at h
 ·cases h;exact⟨by assumption,rfl,rfl⟩
 ·cases h
theorem Ix {b:List UInt8}{a:Nat}(h:a<b.length):bj (cy b a 1)=((b.getD a 0).toNat:Int):=by
 have e:cy b a ((1:Nat):Int)= [b.getD a 0]:=by rw[mZ];show(b.drop a).take 1= [b.getD a 0];rw[List.drop_eq_getElem_cons h,List.getD_eq_getElem?_getD,List.getElem?_eq_getElem h];rfl
 have e:cy b a 1= [b.getD a 0]:=e;rw[e];simp only[bj];omega
section
variable (id:Nat) (b:List UInt8) (a:Nat) (nl:Bool) (σ:AS) (h:σ id=some (bC b a nl)) (ha:a≤b.length) (hnl:nl=true→b= []) (hb:b.length≤100000)
include h ha hb
theorem zR:aa Tryz.prog 207 [jH id] σ (RD (eB b a) sL b nl id σ) (TD (eB b a) b nl id σ):=by
 refine RD.of (fun c y he=> ?_) (fun e he=> ?_)
 ·obtain⟨q,rfl,v⟩:=J7 he;have n:=fun σ h=>mc id b a 1 nl σ h (by omega) (by omega) (by omega) (by decide) (by omega);rw[Ix q,←v]at n;have u:=c.toNat_lt;have hw:IntKind.u8.wrap (c.toNat:Int)=c.toNat:=by rw[A6];omega
  have i:=fun σ=>cH 0 σ;refine aa.ob Tryz.func207 ?_;simp only[jH,sL];refine gO cV tI tI ?_;intro l g;have d:¬id=l:=nq h g;have j:=aA d;refine gO cV (j5 @hw @Tryz.underlying137 @Tryz.underlying5 d @h) (j2 @n @i) ?_;exact ah (aq g (lR _))
 ·have o:¬a<b.length∧e=1:=by
   unfold eB at he;split at he
   ·cases he
   ·cases he;exact⟨by assumption,rfl⟩
  obtain⟨o,rfl⟩:=o;have w:tJ b a 1=1:=by simp[tJ,wide];omega
  have n:=fun σ h=>vz id b a 1 nl σ h (by omega) (by omega) (by omega) (by omega);rw[w]at n;have i:=fun σ=>cE 1 σ;refine aa.ob Tryz.func207 ?_;simp only[jH];refine gO cV tI tI ?_;intro l g;have d:¬id=l:=nq h g;have j:=aA d;refine gO cV (j2 d @h) (j2 @n @i) ?_;exact⟨σ,aq g (lR _),rfl,a,(fS h).symm⟩
include hnl
theorem mb:aa Tryz.prog 208 [jH id] σ (RD (yg b a) JG b nl id σ) (TD (yg b a) b nl id σ):=by
 obtain⟨⟨x,k,e⟩,hu⟩:∃t,pE (b.drop a)=t:=⟨_,rfl⟩;have hf:=s9 _ _ _ _ hu;have o:=fun σ h=>yK id b a nl σ hnl h (by omega) (by omega) (by omega) x k e (by simpa using hu);unfold yg;rw[hu];simp only;by_cases he:e=0
 ·subst he;obtain⟨k1,k4,_⟩:=hf.2.2 rfl;rw[if_pos rfl];refine RD.of (fun v q n=> ?_) (fun e n=>by cases n);cases n;simp only[if_true]at o;have i:=fun σ=>cH 0 σ;refine aa.ob Tryz.func208 ?_;simp only[jH,JG];refine gO cV tI tI ?_;intro l g;have d:¬id=l:=nq h g;have j:=aA d;refine gO cV (j2 d @h) (j2 @o @i) ?_;rw[show max k 0=k by omega];exact ah (aq g (lR _))
 ·rw[if_neg he];refine RD.of (fun v q n=>by cases n) (fun u n=> ?_);cases n;simp only[he,if_false]at o;have i:=fun σ=>cE e σ;refine aa.ob Tryz.func208 ?_;simp only[jH];refine gO cV tI tI ?_;intro l g;have d:¬id=l:=nq h g;have j:=aA d;refine gO cV (j3 @he d @h) (j2 @o @i) ?_;exact⟨σ,aq g (lR _),rfl,a,(fS h).symm⟩
theorem gu:aa Tryz.prog 246 [jH id] σ (RD (Co b a) JG b nl id σ) (TD (Co b a) b nl id σ):=by
 have K:=fun σ h=>mb id b a nl σ h ha hnl hb;unfold Co;cases D:yg b a with
 |error e=>refine RD.of (fun v O w=>by cases w) (fun T w=> ?_);cases w;have j:=fun σ h=>RD.bad (K σ h) D;simp only[jH]at j⊢;refine aa.ob Tryz.func246 ?_;refine gO cV tI tI ?_;intro o g;have d:¬id=o:=nq h g;have i:=aA d;refine gO cV (j2 d @h) @j ?_;refine cw ?_;intro x;exact⟨_,ah (aq g (lR _)),rfl,x,rfl⟩
 |ok y=>
  obtain⟨n,U⟩:=y;obtain⟨S,n1,_,_⟩:=rT D;have j:=fun σ h=>RD.ok (K σ h) D;have A:=fun σ=>Cu (if 1048576<n then 1048576 else n) σ;rw[Hk]at A;have u:DR n=(decide ((bK n).2.2=0)&&(decide ((bK n).1=0)&&decide ((bK n).2.1≤32))):=rfl;have E:= @y9 n;simp only;generalize bK n=C at*;obtain⟨M,F,L⟩:=C;simp only at A u E⊢;cases q:DR n with
  |true=>
   rw[if_pos rfl];refine RD.of (fun v O w=> ?_) (fun e w=>by cases w);cases w;obtain⟨_,Q,P⟩:=E q;rw[q]at u;have G:L=0∧M=0∧F≤32:=by simpa using u.symm
   obtain⟨rfl,rfl,G⟩:=G;have hw:IntKind.i64.wrap (F-1)=F-1:=ay (by omega) (by omega);have l:=fun σ=>cH 5 σ;simp only[jH,JG]at j⊢;refine aa.ob Tryz.func246 ?_;refine gO cV tI tI ?_;intro o g;have d:¬id=o:=nq h g;have i:=aA d;refine gO cV (j4 @G @hw d @h) (j3 @j @A @l) ?_;exact ah (aq g (lR _))
  |false=>
   rw[if_neg (by simp)];refine RD.of (fun v O w=>by cases w) (fun e w=> ?_);cases w;rw[q]at u;have l:=fun σ=>cE 5 σ;simp only[jH,JG]at j⊢;refine aa.ob Tryz.func246 ?_;refine gO cV tI tI ?_;intro o g;have d:¬id=o:=nq h g;have i:=aA d;by_cases H:L=0<;>by_cases J:M=0<;>by_cases I:F≤32;all_goals first
    |(exfalso;simp[J,I,H]at u;done)
    |skip
   all_goals
    refine gO cV (j5 @J @I @H d @h) (j3 @j @A @l) ?_;exact⟨_,ah (aq g (lR _)),rfl,_,rfl⟩
omit hnl
theorem Ak (l:b.length≤a):aa Tryz.prog 203 [jH id] σ (ao (.bQ []) σ) No:=by have hle:=fun σ h=>jm id b a nl σ h (by omega) (by omega) (by omega);have n:((b.length:Int)-a=0)=True:=eq_true (by omega);have i:=fun σ=>cH 2 σ;refine aa.ob Tryz.func203 ?_;simp only[jH];refine gO cV tI tI ?_;intro j g;have d:¬id=j:=nq h g;refine gO cV (j3 @n d @h) (j2 @hle @i) ?_;exact aq g (lR _)
omit ha in
theorem Al (l:a<b.length):aa Tryz.prog 203 [jH id] σ No (zk b nl id 2 σ):=by have hle:=fun σ h=>jm id b a nl σ h (by omega) (by omega) (by omega);have n:((b.length:Int)-a=0)=False:=eq_false (by omega);have i:=fun σ=>cE 2 σ;refine aa.ob Tryz.func203 ?_;simp only[jH];refine gO cV tI tI ?_;intro j g;have d:¬id=j:=nq h g;refine gO cV (j3 @n d @h) (j2 @hle @i) ?_;exact⟨σ,aq g (lR _),rfl,a,(fS h).symm⟩
end
end Sg
end Go.Proofs.YtknalmoackcpbaaGreat
namespace Go.Proofs.YtknalmoackcpbaaGreat
namespace Sg
open Go Go.AW
theorem bu (S:List Nat):aH Tryz.prog [] S:=mixed
theorem E0 (l:List UInt8) (q:Nat) (nl:Bool) (hnl:nl=true→l= []) (hl:l.length≤1000) (t:Ty) (ht:bo t=true) (σ:AS) (h0:σ q=none):
 aa Tryz.prog 135 [.an 5 (l.map u8) (.tok q) nl,cr t] (σ.set q (.tok l.length))
  (la (fun J=> .an 5 ((l++eN t).map u8) (.tok J) false) (l++eN t).length σ) No:=by
 obtain⟨d0,d3,I,H⟩:=kL ht;obtain⟨k,x,d,K⟩:=t;simp only at d0 d3 I H;obtain⟨n,rfl⟩:∃n:Nat,d=n:=⟨d.toNat,by omega⟩;have o:=fun σ=>Gm 29 .full n (by omega) σ;cases K
 ·rcases H with⟨rfl,_,h,rfl⟩|⟨rfl,rfl⟩|⟨rfl,rfl⟩|⟨rfl,rfl⟩|⟨rfl,G⟩|⟨rfl,G⟩|⟨rfl,G⟩
  ·have u:eN { kind:=1,index:=0,bt:=n,ref:=false } =(List.replicate n 29++ [1]):=by simp[eN,lL]
   rw[u];refine aa.ob Tryz.func135 ?_;simp only[cr];refine gO bu tI tI ?_;intro id g j;have i:=aA g;refine gO bu (j2 g i) @o ?_;exact bJ q h0 (by simp) (by simpa[Nat.add_assoc]using AS.ah (lR _) (by simp[g,j]))
  ·have u:eN { kind:=2,index:=0,bt:=n,ref:=false } =(List.replicate n 29++ [8]):=by simp[eN,lL]
   rw[u];refine aa.ob Tryz.func135 ?_;simp only[cr];refine gO bu tI tI ?_;intro id g j;have i:=aA g;refine gO bu (j2 g i) @o ?_;exact bJ q h0 (by simp) (by simpa[Nat.add_assoc]using AS.ah (lR _) (by simp[g,j]))
  ·have u:eN { kind:=3,index:=0,bt:=n,ref:=false } =(List.replicate n 29++ [10]):=by simp[eN,lL]
   rw[u];refine aa.ob Tryz.func135 ?_;simp only[cr];refine gO bu tI tI ?_;intro id g j;have i:=aA g;refine gO bu (j2 g i) @o ?_;exact bJ q h0 (by simp) (by simpa[Nat.add_assoc]using AS.ah (lR _) (by simp[g,j]))
  ·have u:eN { kind:=4,index:=0,bt:=n,ref:=false } =(List.replicate n 29++ [28]):=by simp[eN,lL]
   rw[u];refine aa.ob Tryz.func135 ?_;simp only[cr];refine gO bu tI tI ?_;intro id g j;have i:=aA g;refine gO bu (j2 g i) @o ?_;exact bJ q h0 (by simp) (by simpa[Nat.add_assoc]using AS.ah (lR _) (by simp[g,j]))
  ·have u:eN { kind:=5,index:=x,bt:=n,ref:=false } =(List.replicate n 29++(18::aY (4*(x+1)))):=by simp[eN,lL]
   rw[u];have w:=fun σ=>kB (l++(List.replicate n 29++ [18])) (.tok q) false (by simp) (by simp;omega) (4*(x+1)) (by omega) (by omega) σ;simp[List.append_assoc]at w;have y:((4*(x+1))<0)=False:=by simp;omega
   have A:=fun σ=>sJ 0 (x+1) σ;rw[show iW 0 (x+1)=(4*(x+1),0) by unfold iW;rw[if_neg (by omega),if_neg (by omega),if_neg (by omega)];simp]at A;have hw:IntKind.i64.wrap (x+1)=x+1:=ay (by omega) (by omega);refine aa.ob Tryz.func135 ?_;simp only[cr];refine gO bu tI tI ?_;intro id g j;have i:=aA g;refine gO bu (j4 @y @hw g i) (j3 @o @w @A) ?_;intro v E D F;refine gO bu tI tI ?_;exact bJ v F (by simp) (by simpa[Nat.add_assoc]using ah (AS.ah (AS.ah (lR _) h0) (by simp[j])))
  ·have u:eN { kind:=6,index:=x,bt:=n,ref:=false } =(List.replicate n 29++(17::aY (4*(x+1)))):=by simp[eN,lL]
   rw[u];have w:=fun σ=>kB (l++(List.replicate n 29++ [17])) (.tok q) false (by simp) (by simp;omega) (4*(x+1)) (by omega) (by omega) σ;simp[List.append_assoc]at w;have y:((4*(x+1))<0)=False:=by simp;omega
   have A:=fun σ=>sJ 0 (x+1) σ;rw[show iW 0 (x+1)=(4*(x+1),0) by unfold iW;rw[if_neg (by omega),if_neg (by omega),if_neg (by omega)];simp]at A;have hw:IntKind.i64.wrap (x+1)=x+1:=ay (by omega) (by omega);refine aa.ob Tryz.func135 ?_;simp only[cr];refine gO bu tI tI ?_;intro id g j;have i:=aA g;refine gO bu (j4 @y @hw g i) (j3 @o @w @A) ?_;intro v E D F;refine gO bu tI tI ?_;exact bJ v F (by simp) (by simpa[Nat.add_assoc]using ah (AS.ah (AS.ah (lR _) h0) (by simp[j])))
  ·have u:eN { kind:=7,index:=x,bt:=n,ref:=false } =(List.replicate n 29++(19::aY x)):=by simp[eN,lL]
   rw[u];have w:=fun σ=>kB (l++(List.replicate n 29++ [19])) (.tok q) false (by simp) (by simp;omega) x (by omega) (by omega) σ;simp[List.append_assoc]at w;have y:(x<0)=False:=by simp;omega
   refine aa.ob Tryz.func135 ?_;simp only[cr];refine gO bu tI tI ?_;intro id g j;have i:=aA g;refine gO bu (j3 @y g i) (j2 @o @w) ?_;intro v E D F;refine gO bu tI tI ?_;exact bJ v F (by simp) (by simpa[Nat.add_assoc]using ah (AS.ah (AS.ah (lR _) h0) (by simp[j])))
 ·rcases H with⟨rfl,_,h,rfl⟩|⟨rfl,rfl⟩|⟨rfl,rfl⟩|⟨rfl,rfl⟩|⟨rfl,G⟩|⟨rfl,G⟩|⟨rfl,G⟩
  ·cases h
  ·have u:eN { kind:=2,index:=0,bt:=n,ref:=true } =16::(List.replicate n 29++ [8]):=by simp[eN,lL]
   rw[u];refine aa.ob Tryz.func135 ?_;simp only[cr];refine gO bu tI tI ?_;intro id g j;have i:=aA g;refine gO bu (j2 g i) @o ?_;exact bJ q h0 (by simp) (by simpa[Nat.add_assoc]using AS.ah (lR _) (by simp[g,j]))
  ·have u:eN { kind:=3,index:=0,bt:=n,ref:=true } =16::(List.replicate n 29++ [10]):=by simp[eN,lL]
   rw[u];refine aa.ob Tryz.func135 ?_;simp only[cr];refine gO bu tI tI ?_;intro id g j;have i:=aA g;refine gO bu (j2 g i) @o ?_;exact bJ q h0 (by simp) (by simpa[Nat.add_assoc]using AS.ah (lR _) (by simp[g,j]))
  ·have u:eN { kind:=4,index:=0,bt:=n,ref:=true } =16::(List.replicate n 29++ [28]):=by simp[eN,lL]
   rw[u];refine aa.ob Tryz.func135 ?_;simp only[cr];refine gO bu tI tI ?_;intro id g j;have i:=aA g;refine gO bu (j2 g i) @o ?_;exact bJ q h0 (by simp) (by simpa[Nat.add_assoc]using AS.ah (lR _) (by simp[g,j]))
  ·have u:eN { kind:=5,index:=x,bt:=n,ref:=true } =16::(List.replicate n 29++(18::aY (4*(x+1)))):=by simp[eN,lL]
   rw[u];have w:=fun σ=>kB (l++16::(List.replicate n 29++ [18])) (.tok q) false (by simp) (by simp;omega) (4*(x+1)) (by omega) (by omega) σ;simp[List.append_assoc]at w;have y:((4*(x+1))<0)=False:=by simp;omega
   have A:=fun σ=>sJ 0 (x+1) σ;rw[show iW 0 (x+1)=(4*(x+1),0) by unfold iW;rw[if_neg (by omega),if_neg (by omega),if_neg (by omega)];simp]at A;have hw:IntKind.i64.wrap (x+1)=x+1:=ay (by omega) (by omega);refine aa.ob Tryz.func135 ?_;simp only[cr];refine gO bu tI tI ?_;intro id g j;have i:=aA g;refine gO bu (j4 @y @hw g i) (j3 @o @w @A) ?_;intro v E D F;refine gO bu tI tI ?_;exact bJ v F (by simp) (by simpa[Nat.add_assoc]using ah (AS.ah (AS.ah (lR _) h0) (by simp[j])))
  ·have u:eN { kind:=6,index:=x,bt:=n,ref:=true } =16::(List.replicate n 29++(17::aY (4*(x+1)))):=by simp[eN,lL]
   rw[u];have w:=fun σ=>kB (l++16::(List.replicate n 29++ [17])) (.tok q) false (by simp) (by simp;omega) (4*(x+1)) (by omega) (by omega) σ;simp[List.append_assoc]at w;have y:((4*(x+1))<0)=False:=by simp;omega
   have A:=fun σ=>sJ 0 (x+1) σ;rw[show iW 0 (x+1)=(4*(x+1),0) by unfold iW;rw[if_neg (by omega),if_neg (by omega),if_neg (by omega)];simp]at A;have hw:IntKind.i64.wrap (x+1)=x+1:=ay (by omega) (by omega);refine aa.ob Tryz.func135 ?_;simp only[cr];refine gO bu tI tI ?_;intro id g j;have i:=aA g;refine gO bu (j4 @y @hw g i) (j3 @o @w @A) ?_;intro v E D F;refine gO bu tI tI ?_;exact bJ v F (by simp) (by simpa[Nat.add_assoc]using ah (AS.ah (AS.ah (lR _) h0) (by simp[j])))
  ·have u:eN { kind:=7,index:=x,bt:=n,ref:=true } =16::(List.replicate n 29++(19::aY x)):=by simp[eN,lL]
   rw[u];have w:=fun σ=>kB (l++16::(List.replicate n 29++ [19])) (.tok q) false (by simp) (by simp;omega) x (by omega) (by omega) σ;simp[List.append_assoc]at w;have y:(x<0)=False:=by simp;omega
   refine aa.ob Tryz.func135 ?_;simp only[cr];refine gO bu tI tI ?_;intro id g j;have i:=aA g;refine gO bu (j3 @y g i) (j2 @o @w) ?_;intro v E D F;refine gO bu tI tI ?_;exact bJ v F (by simp) (by simpa[Nat.add_assoc]using ah (AS.ah (AS.ah (lR _) h0) (by simp[j])))
theorem bT (S:List Nat):aH Tryz.prog [] S:=mixed
theorem lP {c:UInt8}{n:Nat}(d:n<256):((c.toNat:Int)=(n:Int))=(c=UInt8.ofNat n):=by
 simp only[eq_iff_iff];constructor
 ·intro h;apply UInt8.toNat_inj.1;simp;omega
 ·intro h;subst h;simp;omega
def TP (k i:Int) (d:Nat) (r:Bool):bN:= .cells 49 [.sc (.int .i64 k),.sc (.int .i64 i),.sc (.int .i64 d),.sc (.bool r)]
theorem dL (k i:Int) (d:Nat) (r:Bool):TP k i d r= .cells 49 [.sc (.int .i64 k),.sc (.int .i64 i),.sc (.int .i64 d),.sc (.bool r)]:=rfl
def fV (P:Program) {α:Type}(I:α→Prop) (fr:α→List (Nat×AV)) (st:α→AS) (s:Fr) (σ:AS):Prop:= ∃v,I v∧aS P s (jJ (fr v))∧AS.le (st v) σ
theorem fV.mk {P:Program}{α:Type}{I:α→Prop}{fr:α→List (Nat×AV)}{st:α→AS}{s:Fr}{σ:AS}(v:α) (h1:aS P s (jJ (fr v))) (g:AS.le (st v) σ) (d:I v):fV P I fr st s σ:=⟨v,d,h1,g⟩
@[congr] theorem Pm {P:Program}{α:Type}{I:α→Prop}{fr:α→List (Nat×AV)}{st:α→AS}{s d:Fr}{σ σ':AS}(h1:s=d) (g:σ=σ'):fV P I fr st s σ=fV P I fr st d σ':=by rw[h1,g]
theorem xk {P:Program}{n:Nat}{ds:List Deferred}{Q:AQ}{s:Fr}{σ:AS}{α:Type}{x y:Code}(I:α→Prop) (fr:α→List (Nat×AV)) (st:α→AS) (h1:ae P n ds x (dP (fV P I fr st) Q) s σ)
 (d:∀v,I v→ae P n ds y Q (jJ (fr v)) (st v)):ae P n ds x (dP (ae P n ds y Q) Q) s σ:=by
 refine h1.mono fun e g σ' h=> ?_;cases e with
 |normal=>obtain⟨v,i1,i2,i3⟩:=h;exact(d v i1).weaken i2 i3
 |exit i=>exact h
 |ret=>exact h
 |panic x=>exact h
theorem y6 {b:List UInt8}{a:Nat}{c:UInt8}{d:Nat}(h:eB b a= .ok (c,d)):d≤b.length:=by have:=J7 h;omega
theorem D9 {b:List UInt8}{a:Nat}{n:Int}{d:Nat}(h:yg b a= .ok (n,d)):d≤b.length:=by have:=rT h;have:=this.2.2.1.len;omega
theorem H3 (id:Nat) (b:List UInt8) (a:Nat) (nl:Bool) (σ:AS) (h:σ id=some (bC b a nl)) (ha:a≤b.length) (hnl:nl=true→b= []) (hb:b.length≤100000):
 aa Tryz.prog 202 [jH id] σ (RD (oN b a) cr b nl id σ) (TD (oN b a) b nl id σ):=by
 have ho:=fun x σ h hx=>zR id b x nl σ h hx hb;have hi:=fun x σ h hx=>gu id b x nl σ h hx hnl hb;have hp:=fun x σ h hx=>mb id b x nl σ h hx hnl hb;refine aa.ob Tryz.func202 ?_;simp only[jH]at ho hi hp⊢;refine gO bT tI tI ?_;intro b5 Y;refine gO bT tI tI ?_;intro bc O X;have J:=aA O;refine gO bT tI tI ?_;intro id3 H I Q;have u:=aA H;have l:=aA I;have F:¬id=b5:=nq h Y;have o:=aA F;have A:¬id=bc:=nq h X;have v:=aA A;have g:¬id=id3:=nq h Q;have j:=aA g;cases hB:eB b a with
 |error e=>
  have hX:oN b a= .error e:=by unfold oN;rw[hB]
  have a5:=fun σ h=>RD.bad (ho a σ h ha) hB;refine gO bT (j6 J l F @h A g) @a5 ?_;refine cw ?_;intro x;refine⟨_,?_,e,hX,rfl,x,rfl⟩;exact ah (AS.ah (AS.ah (AS.ah (lR _) Y) X) Q)
 |ok y=>
  obtain⟨c,a1⟩:=y;have a5:=fun σ h=>RD.ok (ho a σ h ha) hB;have be:=y6 hB;simp only[sL]at a5;obtain⟨B,d3,M,w,a7,cs⟩:=Fa σ (.cells 275 [.ptr id 0]) (.cells 49 [.sc (.int .i64 0),.sc (.int .i64 0),.sc (.int .i64 0),.sc (.bool false)]) Y X J;simp only[d3];clear d3;have d9:B id=some (bC b a nl):=by rw[a7 id F A];exact h
  have ej:B id3=none:=by rw[a7 id3 I H];exact Q
  have c6:AS.le σ B:=cs B fun _ _ _ _ h=>h;have G:∀(rf:Bool) (k i:Int) (d:Nat) (x y:bN),AS.le (σ.set id y) ((B.set id3 x).set id y):=fun _ _ _ _ x y=>ah (AS.ah c6 Q);refine gO (S:= [3]) bT (j4 l g @M @d9) @a5 ?_;have b4:=lP (c:=c) (n:=16) (by omega)
  (with_reducible apply ae.region);simp-implicitDefEqProofs
  repeat (with_reducible refine j2 (by first|omega|assumption|decide) ?_)
  try (with_reducible apply ae.seq)
  refine xk (α:=Bool×UInt8×Nat) (fun x=>AX b x.1 3 0 x.2.1 x.2.2=oN b a∧x.2.2≤b.length) (fun x=> [(1,.ptr b5 0),(2,.ptr bc 0),(3,.ptr id3 0),(4,sL x.2.1)]) (fun x=>(B.set id3 (TP 0 0 0 x.1)).set id (bC b x.2.2 nl)) ?_ ?_
  ·by_cases a6:c=16
   ·have z:((c.toNat:Int)=16)=True:=b4.trans (eq_true a6);cases w:eB b a1 with
    |error e=>
     have hX:oN b a= .error e:=by unfold oN;rw[hB];simp only[a6,if_true];rw[w]
     have V:=fun σ h=>RD.bad (ho a1 σ h be) w;refine gO bT (j6 @z l o j g @M) @V ?_;refine cw ?_;try simp-implicitDefEqProofs
     intro x;exact⟨_,G true 0 0 0 _ _,e,hX,rfl,x,rfl⟩
    |ok y=>
     obtain⟨c2,a2⟩:=y;have V:=fun σ h=>RD.ok (ho a1 σ h be) w;have ca:=y6 w;simp only[sL]at V;refine gO bT (j6 @z l o j g @M) @V ?_;refine fV.mk ((true,c2,a2)) (gF @sL.eq_1) (by(try dsimp only);(simp[dL])) ?_;try dsimp only
     exact⟨by unfold oN;rw[hB];simp only[a6,if_true];rw[w],ca⟩
   ·have z:((c.toNat:Int)=16)=False:=b4.trans (eq_false a6);refine gO bT @z tI ?_;refine fV.mk ((false,c,a1)) (gF @sL.eq_1) (by(try dsimp only);(simp[dL])) ?_;try dsimp only
    exact⟨by unfold oN;rw[hB];simp only[a6,if_false],be⟩
  ·rintro⟨rf,c0,a0⟩ ⟨cb,dl⟩;simp only at cb dl⊢;clear a5 b4 hB be;refine gO bT tI tI ?_;refine ae.bp (α:=(Nat)×(Nat)×(UInt8)×(Nat)) ((3,0,c0,a0)) (fun⟨f,d,c,q⟩=>f) (fun⟨f,d,c,q⟩=>d+f=3∧AX b rf f d c q=oN b a∧q≤b.length) [(1,?_),(2,?_),(3,?_)] (fun⟨f,d,c,q⟩=> [(4,sL c)]) (fun⟨f,d,c,q⟩=>(B.set id3 (TP 0 0 d rf)).set id (bC b q nl)) ?_ ?_ ?_ ?_;rotate_left 3
   ·exact gF tI
   ·exact gT
   ·exact⟨rfl,cb,dl⟩
   intro x_ c4;obtain⟨f,d,c,q⟩:=x_;try dsimp only at c4⊢
   obtain⟨eg,hX,hq⟩:=c4;simp only[gj];have ce:=lP (c:=c) (n:=29) (by omega);by_cases al:c=29
   ·have z:((c.toNat:Int)=29)=True:=ce.trans (eq_true al);cases f with
    |zero=>
     have E:oN b a= .error 6:=by rw[←hX];simp[AX,al]
     obtain rfl:d=3:=by omega
     have D:=fun σ=>cE 6 σ;refine gO bT (j5 @z @sL.eq_1 @dL j g) @D ?_;exact⟨_,G true 0 0 0 _ _,6,E,rfl,q,rfl⟩
    |succ f=>
     have c9:(d:Int)+1≤3:=by omega
     have D:=fun σ=>cH 6 σ;have b1:IntKind.i64.wrap ((d:Int)+1)=((d+1:Nat):Int):=cv (by omega);cases w:eB b q with
     |error e=>
      have E:oN b a= .error e:=by rw[←hX];simp[AX,al,w]
      have V:=fun σ h=>RD.bad (ho q σ h hq) w;refine gO bT (j2 (j7 @z @sL.eq_1 @dL @c9 l o j) (j3 g @M @b1)) (j2 @V @D) ?_;refine cw ?_;try simp-implicitDefEqProofs
      intro x;exact⟨_,G true 0 0 0 _ _,e,E,rfl,x,rfl⟩
     |ok y=>
      obtain⟨c2,a2⟩:=y;have V:=fun σ h=>RD.ok (ho q σ h hq) w;have ca:=y6 w;simp only[sL]at V;refine gO bT (j2 (j7 @z @sL.eq_1 @dL @c9 l o j) (j3 g @M @b1)) (j2 @V @D) ?_;refine aP.mk ((f,d+1,c2,a2)) (by(try dsimp only);omega) (gF tI) (by(try dsimp only);(simp)) ?_;try dsimp only
      exact⟨by omega,by rw[←hX];simp[AX,al,w],ca⟩
   ·have z:((c.toNat:Int)=29)=False:=ce.trans (eq_false al);have hK:xO b rf d c q=oN b a:=by rw[←hX];cases f<;>simp[AX,al]
    have ei:d≤3:=by omega
    clear cb hX;have P:∀(x y:bN) (z:Nat),AS.le (σ.set id (bC b (z:Int) nl)) (((B.set id3 x).set id (bC b (z:Int) nl)).set bc y):=fun x y z=>by
     have F_:=(j2 (j7 X Q A v O J H) (j2 (j7 u I l o F @h v) (j7 A j g @M @w g j)));intro j_ y_;refine gK F_ j_ id fun dn=>gK F_ j_ bc fun a8=>gK F_ j_ id3 fun cc=> ?_;intro a4;simp[AS.set,dn,a8,cc]at a4⊢;try exact a4
     by_cases dp:j_=b5
     ·subst dp;rw[Y]at a4;cases a4
     ·rw[a7 j_ dp a8];exact a4
    have w1:=lP (c:=c) (n:=1) (by omega);have w8:=lP (c:=c) (n:=8) (by omega);have cl:=lP (c:=c) (n:=10) (by omega);have ch:=lP (c:=c) (n:=28) (by omega);have cj:=lP (c:=c) (n:=18) (by omega);have ck:=lP (c:=c) (n:=17) (by omega);have ci:=lP (c:=c) (n:=19) (by omega);by_cases c1:c=1
    ·have v1:((c.toNat:Int)=1)=True:=w1.trans (eq_true c1);have D:=fun e σ=>cH e σ;have ac:=fun e σ=>cE e σ;by_cases hr:rf=true
     ·have E:oN b a= .error 2:=by rw[←hK];simp[xO,c1,hr]
      refine gO bT (j6 @z @sL.eq_1 @dL @v1 @hr j) @ac ?_;exact⟨_,G true 0 0 0 _ _,2,E,rfl,q,rfl⟩
     obtain rfl:rf=false:=by simpa using hr
     by_cases de:d=0
     ·subst de;have L:oN b a= .ok (⟨1,0,0,false⟩,q):=by rw[←hK];simp[xO,c1]
      refine gO bT (j2 (j7 @z @sL.eq_1 @dL @v1 u v j) (j2 g @w)) @D ?_;exact⟨_,_,Wk.refl _,P _ _ _,_,q,L,rfl,rfl⟩
     ·have E:oN b a= .error 2:=by rw[←hK];simp[xO,c1];omega
      refine gO bT (j6 @z @sL.eq_1 @dL @v1 @de j) @ac ?_;exact⟨_,G true 0 0 0 _ _,2,E,rfl,q,rfl⟩
    have v1:((c.toNat:Int)=1)=False:=w1.trans (eq_false c1);by_cases c8:c=8
    ·have v8:((c.toNat:Int)=8)=True:=w8.trans (eq_true c8);have L:oN b a= .ok (⟨2,0,d,rf⟩,q):=by rw[←hK];simp[xO,c8]
     refine gO bT (j2 (j7 @z @sL.eq_1 @dL @v1 @v8 u v) (j3 j g @w)) tI ?_;exact⟨_,_,Wk.refl _,P _ _ _,_,q,L,rfl,rfl⟩
    have v8:((c.toNat:Int)=8)=False:=w8.trans (eq_false c8);by_cases b0:c=10
    ·have v10:((c.toNat:Int)=10)=True:=cl.trans (eq_true b0);have L:oN b a= .ok (⟨3,0,d,rf⟩,q):=by rw[←hK];simp[xO,b0]
     refine gO bT (j2 (j7 @z @sL.eq_1 @dL @v1 @v8 @v10 u) (j4 v j g @w)) tI ?_;exact⟨_,_,Wk.refl _,P _ _ _,_,q,L,rfl,rfl⟩
    have v10:((c.toNat:Int)=10)=False:=cl.trans (eq_false b0);by_cases bv:c=28
    ·have T:((c.toNat:Int)=28)=True:=ch.trans (eq_true bv);have L:oN b a= .ok (⟨4,0,d,rf⟩,q):=by rw[←hK];simp[xO,bv]
     refine gO bT (j2 (j7 @z @sL.eq_1 @dL @v1 @v8 @v10 @T) (j5 u v j g @w)) tI ?_;exact⟨_,_,Wk.refl _,P _ _ _,_,q,L,rfl,rfl⟩
    have T:((c.toNat:Int)=28)=False:=ch.trans (eq_false bv);by_cases a9:c=18
    ·have U:((c.toNat:Int)=18)=True:=cj.trans (eq_true a9);cases hN:Co b q with
     |error e=>
      have E:oN b a= .error e:=by rw[←hK];simp[xO,a9,hN,AU]
      have K:=fun σ h=>RD.bad (hi q σ h hq) hN;refine gO bT (j2 (j7 @z @sL.eq_1 @dL @v1 @v8 @v10 @T) (j2 (j7 @U u l o v j g) (j2 @M @w))) @K ?_;refine cw ?_;try simp-implicitDefEqProofs
      intro x;exact⟨_,G true 0 0 0 _ _,e,E,rfl,x,rfl⟩
     |ok y=>
      obtain⟨i,a2⟩:=y;have K:=fun σ h=>RD.ok (hi q σ h hq) hN;simp only[JG]at K;have L:oN b a= .ok (⟨5,i,d,rf⟩,a2):=by rw[←hK];simp[xO,a9,hN,AU]
      refine gO bT (j2 (j7 @z @sL.eq_1 @dL @v1 @v8 @v10 @T) (j2 (j7 @U u l o v j g) (j2 @M @w))) @K ?_;exact⟨_,_,Wk.refl _,P _ _ _,_,a2,L,rfl,rfl⟩
    have U:((c.toNat:Int)=18)=False:=cj.trans (eq_false a9);by_cases bb:c=17
    ·have Z:((c.toNat:Int)=17)=True:=ck.trans (eq_true bb);cases hN:Co b q with
     |error e=>
      have E:oN b a= .error e:=by rw[←hK];simp[xO,bb,hN,AU]
      have K:=fun σ h=>RD.bad (hi q σ h hq) hN;refine gO bT (j2 (j7 @z @sL.eq_1 @dL @v1 @v8 @v10 @T) (j2 (j7 @U @Z u l o v j) (j3 g @M @w))) @K ?_;refine cw ?_;try simp-implicitDefEqProofs
      intro x;exact⟨_,G true 0 0 0 _ _,e,E,rfl,x,rfl⟩
     |ok y=>
      obtain⟨i,a2⟩:=y;have K:=fun σ h=>RD.ok (hi q σ h hq) hN;simp only[JG]at K;have L:oN b a= .ok (⟨6,i,d,rf⟩,a2):=by rw[←hK];simp[xO,bb,hN,AU]
      refine gO bT (j2 (j7 @z @sL.eq_1 @dL @v1 @v8 @v10 @T) (j2 (j7 @U @Z u l o v j) (j3 g @M @w))) @K ?_;exact⟨_,_,Wk.refl _,P _ _ _,_,a2,L,rfl,rfl⟩
    have Z:((c.toNat:Int)=17)=False:=ck.trans (eq_false bb);by_cases am:c=19
    ·have a3:((c.toNat:Int)=19)=True:=ci.trans (eq_true am);cases hN:yg b q with
     |error e=>
      have E:oN b a= .error e:=by rw[←hK];simp[xO,am,hN,AU,J5]
      have K:=fun σ h=>RD.bad (hp q σ h hq) hN;refine gO bT (j2 (j7 @z @sL.eq_1 @dL @v1 @v8 @v10 @T) (j6 @U @Z @a3 l o @M)) @K ?_;refine cw ?_;try simp-implicitDefEqProofs
      intro x;exact⟨_,G true 0 0 0 _ _,e,E,rfl,x,rfl⟩
     |ok y=>
      obtain⟨i,a2⟩:=y;have K:=fun σ h=>RD.ok (hp q σ h hq) hN;simp only[JG]at K;have D:=fun e σ=>cH e σ;have ac:=fun e σ=>cE e σ;by_cases h7:i≤7
      ·have L:oN b a= .ok (⟨7,i,d,rf⟩,a2):=by rw[←hK];simp[xO,am,hN,AU,J5,h7]
       refine gO bT (j2 (j7 @z @sL.eq_1 @dL @h7 @v1 @v8 @v10) (j2 (j7 @T @U @Z @a3 u l o) (j5 v j g @M @w))) (j2 @K @D) ?_;exact⟨_,_,Wk.refl _,P _ _ _,_,a2,L,rfl,rfl⟩
      ·have E:oN b a= .error 5:=by rw[←hK];simp[xO,am,hN,AU,J5,h7]
       refine gO bT (j2 (j7 @z @sL.eq_1 @dL @h7 @v1 @v8 @v10) (j2 (j7 @T @U @Z @a3 l o j) (j2 g @M))) (j2 @K @ac) ?_;exact⟨_,G true 0 0 0 _ _,5,E,rfl,a2,rfl⟩
    have a3:((c.toNat:Int)=19)=False:=ci.trans (eq_false am);have E:oN b a= .error 2:=by rw[←hK];simp[xO,c1,c8,b0,bv,a9,bb,am]
    refine gO bT (j2 (j7 @z @sL.eq_1 @dL @v1 @v8 @v10 @T) (j3 @U @Z @a3)) tI ?_;exact⟨_,G true 0 0 0 _ _,2,E,rfl,q,rfl⟩
theorem jE (S:List Nat):aH Tryz.prog [] S:=mixed
theorem aD (t:Ty):cr t= .agg [.sc (.int .i64 t.kind),.sc (.int .i64 t.index),.sc (.int .i64 t.bt),.sc (.bool t.ref)]:=rfl
theorem Pj {b:List UInt8}{a:Nat}{t:Ty}{d:Nat}(h:oN b a= .ok (t,d)):d≤b.length:=by have:=NN h;have:=this.2.1.len;omega
theorem vG {ok:Ty→Bool}{b:List UInt8}{a:Nat}{t:Ty}{d:Nat}(h:lE ok b a= .ok (t,d)):d≤b.length:=by have:=Kx h;have:=this.2.2.1.len;omega
theorem zW (F:Ty→Bool) (fv:AV) (U:∀(σ:AS) (t:Ty),mX Tryz.prog σ fv [cr t] (.sc (.bool (F t)))) (id:Nat) (b:List UInt8) (a:Nat) (nl:Bool) (σ:AS) (h:σ id=some (bC b a nl)) (ha:a≤b.length) (hnl:nl=true→b= []) (hb:b.length≤100000):
 aa Tryz.prog 212 [jH id,fv] σ (RD (lE F b a) cr b nl id σ) (TD (lE F b a) b nl id σ):=by
 have ht:=fun σ h=>H3 id b a nl σ h ha hnl hb;refine aa.ob Tryz.func212 ?_;simp only[jH]at ht⊢;refine gO jE tI tI ?_;intro Q E;refine gO jE tI tI ?_;intro P q D;have l:=aA q;have g:¬id=Q:=nq h E;have A:=aA g;have d:¬id=P:=nq h D;have n:=aA d;have V:∀(x1 x2 y:bN),AS.le (σ.set id y) (((σ.set Q x1).set P x2).set id y):=fun x1 x2 y=>ah (AS.ah (AS.ah (lR _) E) D);cases Y:oN b a with
 |error e=>
  have X:lE F b a= .error e:=by unfold lE;rw[Y]
  have S:=fun σ h=>RD.bad (ht σ h) Y;refine gO jE (j4 l g @h d) @S ?_;refine cw ?_;intro x;exact⟨_,V _ _ _,e,X,rfl,x,rfl⟩
 |ok y=>
  obtain⟨t,a1⟩:=y;have S:=fun σ h=>RD.ok (ht σ h) Y;simp only[aD]at S U;refine gO jE (j4 l g @h d) @S ?_;intro id3 u i o L;have w:=aA u;have j:=aA i;have v:=aA o;have hf:=fun σ=>U σ t;cases Z:F t with
  |true=>
   have X:lE F b a= .ok (t,a1):=by unfold lE;rw[Y];simp[Z]
   rw[Z]at hf;have G:=fun σ=>cH 10 σ;repeat (first
    |(with_reducible first|apply ae.seq|apply ae.block|refine j2 (by first|omega|assumption|decide) ?_)
    |((first|(with_reducible first|apply ae.fork|apply ae.region|show aN _ _ _ |show aB _ _ _ _ _ _ _ _ _)|((with_reducible apply ag.id);first|apply (mX.use (hf _))|apply ag.aC (G _)));simp-implicitDefEqProofs [j,i,n,d])
    |((with_reducible first|apply ae.ret|apply ae.skip|apply ae.exit);try simp-implicitDefEqProofs [j,n]))
   refine⟨_,_,Wk.refl _,?_,t,a1,X,rfl,rfl⟩;have T:=(j2 (j7 E D L w u j i) (j2 (j7 v o q l A g @h) (j2 n d)));intro O y_;refine gK T O id fun M=>gK T O Q fun J=>gK T O P fun I=>gK T O id3 fun H=> ?_;intro K;simp[AS.set,M,J,I,H]at K⊢;try exact K
  |false=>
   have X:lE F b a= .error 10:=by unfold lE;rw[Y];simp[Z]
   rw[Z]at hf;have G:=fun σ=>cE 10 σ;repeat (first
    |(with_reducible first|apply ae.seq|apply ae.block|refine j2 (by first|omega|assumption|decide) ?_)
    |((first|(with_reducible first|apply ae.fork|apply ae.region|show aN _ _ _ |show aB _ _ _ _ _ _ _ _ _)|((with_reducible apply ag.id);first|apply (mX.use (hf _))|apply (WU (G _))));simp-implicitDefEqProofs)
    |((with_reducible first|apply ae.ret|apply ae.skip|apply ae.exit);try simp-implicitDefEqProofs [w,u,j,i,v,o,q,l,A,g,h,n,d]))
   refine⟨_,?_,10,X,rfl,a1,rfl⟩;have T:=(j2 (j7 E D L w u j i) (j2 (j7 v o q l A g @h) (j2 n d)));intro O y_;refine gK T O id fun M=>gK T O Q fun J=>gK T O P fun I=>gK T O id3 fun H=> ?_;intro K;simp[AS.set,M,J,I,H]at K⊢;try exact K
def zM (d:List Ty):Except Int (List Ty×Nat)→Except Int (List Ty×Nat)
 |.error e=> .error e
 |.ok (l,a)=> .ok (d++l,a)
theorem yE (b:List UInt8) (d:List Ty) (k a:Nat):zM d (eList b (k+1) a)=match lE bE b a with|.error e=> .error e|.ok (t,g)=>zM (d++ [t]) (eList b k g):=by
 simp only[eList];cases lE bE b a with
 |error e=>rfl
 |ok y=>
  obtain⟨t,g⟩:=y;simp only;cases eList b k g with
  |error e=>rfl
  |ok z=>obtain⟨l,i⟩:=z;simp[zM]
def qy (l:List Ty):AV:= .an 49 (l.map cr) .aE (decide (l= []))
theorem xi {b:List UInt8}{k a:Nat}{l:List Ty}{d:Nat}(ha:a≤b.length) (h:eList b k a= .ok (l,d)):d≤b.length:=by have:=MT k a l d ha h;have:=this.2.2.1.len;omega
theorem Fs (n:Nat) (hn:n≤100) (id:Nat) (b:List UInt8) (a:Nat) (nl:Bool) (σ:AS) (h:σ id=some (bC b a nl)) (ha:a≤b.length) (hnl:nl=true→b= []) (hb:b.length≤100000):
 aa Tryz.prog 209 [jH id,.sc (.int .i64 n)] σ (RD (eList b n a) qy b nl id σ) (TD (eList b n a) b nl id σ):=by
 have hm:=fun x σ h X=>zW bE (.sc (.func (.func 183) #[] #[])) (fun σ t=>mX.func (qI t σ)) id b x nl σ h X hnl hb;refine aa.ob Tryz.func209 ?_;simp only[jH]at hm⊢;refine gO jE tI tI ?_;intro G w;have j:¬id=G:=nq h w;have o:=aA j;refine gO jE tI tI ?_;refine ae.fM 5 49 [] true (by simp) (.inr ⟨by simp,rfl,rfl⟩) ?_;simp-implicitDefEqProofs;intro L u F;have l:=aA u;have g:¬id=L:=nq h F;have v:=aA g;refine ae.bp (α:=(Nat)×(List Ty)×(Nat)) ((0,[],a)) (fun⟨i,d,q⟩=>n-i) (fun⟨i,d,q⟩=>i≤n∧d.length=i∧zM d (eList b (n-i) q)=eList b n a∧q≤b.length) [(2,?_),(4,?_),(6,?_)] (fun⟨i,d,q⟩=> [(7,.sc (.int .i64 i)),(5,.an 49 (d.map cr) (.tok L) (decide (d= [])))]) (fun⟨i,d,q⟩=>((σ.set G (.cells 275 [.ptr id 0])).set L (.tok d.length)).set id (bC b q nl)) ?_ ?_ ?_ ?_;rotate_left 3
 ·exact gF tI
 ·(try dsimp only);(simp;rw[fS (by simp[j,g,h])];exact lR _)
 ·exact⟨by omega,rfl,by simp;cases eList b n a<;>simp[zM],ha⟩
 intro U J;obtain⟨i,d,q⟩:=U;try dsimp only at J⊢
 obtain⟨hi,hd,H,T⟩:=J;simp only[gj];have E:∀(S Q y:bN),AS.le (σ.set id y) (((σ.set G S).set L Q).set id y):=fun S Q y=>ah (AS.ah (AS.ah (lR _) w) F);by_cases D:i<n
 ·have I:IntKind.i64.wrap ((i:Int)+1)=((i+1:Nat):Int):=cv (by omega);obtain⟨k,Y⟩:∃k,n-i=k+1:=⟨n-i-1,by omega⟩;rw[Y,yE]at H;cases K:lE bE b q with
  |error e=>
   rw[K]at H;have A:=fun σ h=>RD.bad (hm q σ h T) K;refine gO jE (j4 D @aI o l) @A ?_;refine cw ?_;try simp-implicitDefEqProofs
   intro x;exact⟨_,E _ _ _,e,H.symm,rfl,x,rfl⟩
  |ok y=>
   obtain⟨t,V⟩:=y;rw[K]at H;have A:=fun σ h=>RD.ok (hm q σ h T) K;have M:=vG K;simp only[aD]at A;have Z:d.length≤100:=by omega
   refine gO jE (j7 D @aI o v g l @I) @A ?_;refine aP.mk ((i+1,d++ [t],V)) (by(try dsimp only);omega) (gF @aD) (by(try dsimp only);(simp;done)) ?_;try dsimp only
   exact⟨D,by simp[hd],by rw[←H,show n-(i+1)=k by omega],M⟩
 ·have O:n-i=0:=by omega
  rw[O]at H;have P:eList b n a= .ok (d,q):=by rw[←H];simp[eList,zM]
  refine gO jE (j2 D @aI) tI ?_;exact⟨_,_,qm _ _ _ _ |>.2 trivial,E _ _ _,d,q,P,rfl,rfl⟩
theorem df (S:List Nat):aH Tryz.prog [] S:=mixed
theorem Ap {b:List UInt8}{a:Nat}{e:Int}(h:eB b a= .error e):e≠0:=by unfold eB at h;split at h<;>cases h;omega
theorem Am {b:List UInt8}{a:Nat}{e:Int}(h:yg b a= .error e):e≠0:=by unfold yg at h;split at h<;>cases h;assumption
theorem FH {b:List UInt8}{a:Nat}{e:Int}(h:Co b a= .error e):e≠0:=by
 unfold Co at h;split at h
 ·cases h;exact Am (by assumption)
 ·split at h<;>cases h;omega
theorem MD {b:List UInt8}{a:Nat}{e:Int}(h:J5 b a= .error e):e≠0:=by
 unfold J5 at h;split at h
 ·cases h;exact Am (by assumption)
 ·split at h<;>cases h;omega
theorem zV {k:Int}{g:Bool}{d:Nat}{x:Except Int (Int×Nat)}{e:Int}(h:AU k g d x= .error e):x= .error e:=by
 unfold AU at h;split at h
 ·cases h;rfl
 ·cases h
theorem FG {b:List UInt8}{g:Bool}{d:Nat}{c:UInt8}{a:Nat}{e:Int}(h:xO b g d c a= .error e):e≠0:=by
 unfold xO at h;split at h
 ·split at h<;>cases h;omega
 split at h
 ·cases h
 split at h
 ·cases h
 split at h
 ·cases h
 split at h
 ·exact FH (zV h)
 split at h
 ·exact FH (zV h)
 split at h
 ·exact MD (zV h)
 ·cases h;omega
theorem FI {b:List UInt8}{g:Bool}{e:Int} :∀(f d:Nat) (c:UInt8) (a:Nat),AX b g f d c a= .error e→e≠0:=by
 intro f;induction f with
 |zero=>
  intro d c a h;simp only[AX]at h;split at h
  ·cases h;omega
  ·exact FG h
 |succ f i=>
  intro d c a h;simp only[AX]at h;split at h
  ·split at h
   ·cases h;exact Ap (by assumption)
   ·exact i _ _ _ h
  ·exact FG h
theorem FF {b:List UInt8}{a:Nat}{e:Int}(h:oN b a= .error e):e≠0:=by
 unfold oN at h;split at h
 ·cases h;exact Ap (by assumption)
 ·split at h
  ·split at h
   ·cases h;exact Ap (by assumption)
   ·exact FI _ _ _ _ h
  ·exact FI _ _ _ _ h
theorem Cn {ok:Ty→Bool}{b:List UInt8}{a:Nat}{e:Int}(h:lE ok b a= .error e):e≠0:=by
 unfold lE at h;split at h
 ·cases h;exact FF (by assumption)
 ·split at h<;>cases h;omega
theorem Hc {b:List UInt8}{e:Int} :∀(k a:Nat),eList b k a= .error e→e≠0:=by
 intro k;induction k with
 |zero=>intro a h;cases h
 |succ k d=>
  intro a h;simp only[eList]at h;split at h
  ·cases h;exact Cn (by assumption)
  ·split at h
   ·cases h;exact d _ (by assumption)
   ·cases h
theorem FE {α:Type}{b:List UInt8}{x:Except Int (α×Nat)}{e:Int}(d:∀e,x= .error e→e≠0) (h:qa b x= .error e):e≠0:=by
 unfold qa at h;split at h
 ·cases h;exact d _ rfl
 ·split at h<;>cases h;omega
theorem JS {b:List UInt8}{e:Int}(h:jf b= .error e):e≠0:=FE (fun _ =>FF) h
theorem J1 {b:List UInt8}{e:Int}(h:rp b= .error e):e≠0:=by
 unfold rp at h;split at h
 ·cases h;exact Ap (by assumption)
 split at h
 ·split at h
  ·cases h;exact Am (by assumption)
  split at h
  ·split at h
   ·cases h;exact Cn (by assumption)
   split at h
   ·cases h;exact Hc _ _ (by assumption)
   ·cases h
  ·cases h;omega
 ·cases h;omega
theorem Iv {b:List UInt8}{e:Int}(h:eP b= .error e):e≠0:=FE (fun _ =>J1) h
def iN:Except Int Ty→Ty
 |.ok t=>t
 |.error _ =>⟨0,0,0,false⟩
def cD {α:Type} :Except Int α→Int
 |.ok _ =>0
 |.error e=>e
def pB (e:Int):bN:= .cells 31 [.sc (.int .i64 e)]
theorem GZ (j i:Nat) (σ:AS) (K:AS→Prop) (g:K σ):bS Tryz.prog 201 [.ptr j 0,.ptr i 0] σ none K:=by
 refine bS.of Tryz.func201 rfl rfl (by simp[Tryz.ntmps201]) (by simp[Tryz.ntmps201]) ?_;refine br.sp rfl (il.mS (by simp[Tryz.ntmps201]) Tryz.underlying272 trivial (by kernel_rfl) rfl ?_);refine br.rest ?_;have d:aw Tryz.prog 272= .sc (.int .i64 0):=by kernel_rfl
 simp-implicitDefEqProofs [d,Tryz.ntmps201];refine gO df tI tI ?_;exact g
theorem yT (g d:Nat) (e:Int) (q o n l z:AV) (σ:AS) (K:AS→Prop) (w:σ g=some (.cells 49 [q,o,n,l])) (v:σ d=some (.cells 31 [z])) (j:¬g=d)
 (u:K ((σ.set g (.cells 49 [.sc (.int .i64 0),.sc (.int .i64 0),.sc (.int .i64 0),.sc (.bool false)])).set d (pB e))):bS Tryz.prog 201 [.ptr g 0,.ptr d 0] σ (some (s8 e)) K:=by
 have i:=aA j;refine bS.of Tryz.func201 rfl rfl (by simp[Tryz.ntmps201]) (by simp[Tryz.ntmps201]) ?_;refine br.sp rfl (il.oR (by simp[Tryz.ntmps201]) Tryz.underlying272 trivial rfl ?_);refine br.rest ?_;simp-implicitDefEqProofs [Tryz.ntmps201,s8,recV];refine gO df (j3 @w @v @i) tI ?_;exact u
theorem JR (b:List UInt8) (o:cL) (nl:Bool) (hnl:nl=true→b= []) (hl:b.length≤100000) (σ:AS):
 aa Tryz.prog 162 [.an 5 (b.map u8) o nl] σ (ao (.bQ [cr (iN (jf b)),.sc (.int .i64 (cD (jf b)))]) σ) No:=by
 refine aa.jj Tryz.func162 rfl rfl (by simp[Tryz.ntmps162]) (fun S=> ?_);apply lg.seq;have I:Tryz.f162.ntmps=14:=rfl;simp-implicitDefEqProofs only[I];refine gO df tI tI ?_;intro G M;refine gO df tI tI ?_;intro id3 i L;have d:=aA i;apply lg.defer (by simp) (by decide+kernel);intro D;simp-implicitDefEqProofs only[I];refine gO df tI tI ?_;refine ag.of (oH b o nl hnl (by omega) _) ?_ (fun _ _ h=>h.elim);rintro r Q ⟨id,J,rfl,rfl⟩;simp at J;obtain⟨A,E,P⟩:=J;have n:=aA A;have q:=aA E;simp-implicitDefEqProofs;refine gO df tI tI ?_;intro id5 l u v K;have w:=aA l;have g:=aA u;have j:=aA v;have ht:=fun σ h=>H3 id b 0 nl σ h (by omega) hnl hl;simp only[jH]at ht;unfold jf;cases O:oN b 0 with
 |error e=>have F:=fun σ h=>RD.bad (ht σ h) O;refine gO df w @F ?_;refine cw ?_;intro x;refine yT G id3 e (.sc (.int .i64 0)) (.sc (.int .i64 0)) (.sc (.int .i64 0)) (.sc (.bool false)) (.sc (.int .i64 0)) _ _ (by simp[j,q,d]) (by simp[g,n]) d ?_;simp-implicitDefEqProofs [l,d,i,pB,qa,iN,cD,aD];repeat (first|exact lR _ |refine AS.ah ?_ (by assumption))
 |ok y=>
  obtain⟨t,a⟩:=y;have ha:=Pj O;have F:=fun σ h=>RD.ok (ht σ h) O;simp only[aD]at F;by_cases H:a<b.length
  ·have he:=fun σ h=>Al id b a nl σ h hl H;simp only[jH]at he;refine gO df (j2 (j7 i d A E n q l) (j5 w u g v j)) (j2 @F @he) ?_;refine cw ?_;intro x;refine yT G id3 2 (.sc (.int .i64 t.kind)) (.sc (.int .i64 t.index)) (.sc (.int .i64 t.bt)) (.sc (.bool t.ref)) (.sc (.int .i64 0)) _ _ (by simp[j,q,d]) (by simp[g,n]) d ?_;simp-implicitDefEqProofs [l,d,i,pB,qa,H,iN,cD,aD];repeat (first|exact lR _ |refine AS.ah ?_ (by assumption))
  ·have he:=fun σ h=>Ak id b a nl σ h ha hl (by omega);simp only[jH]at he;refine gO df (j2 (j7 i d A E n q l) (j5 w u g v j)) (j2 @F @he) ?_;refine GZ G id3 _ _ ?_;simp-implicitDefEqProofs [q,n,d,j,g,qa,H,iN,cD,aD];repeat (first|exact lR _ |refine AS.ah ?_ (by assumption))
theorem B8 (b:List UInt8) (o:cL) (nl:Bool) (hnl:nl=true→b= []) (hl:b.length≤100000) (σ:AS):
 aa Tryz.prog 169 [.an 5 (b.map u8) o nl] σ (ao (.bQ [cr (iN (rl b)),.sc (.int .i64 (cD (rl b)))]) σ) No:=by
 refine aa.ob Tryz.func169 ?_;cases b with
 |nil=>refine gO df tI tI ?_;intro id j;refine gO df tI tI ?_;simp[rl,iN,cD,aD];exact aq j (lR _)
 |cons c r=>
  have M:=lP (c:=c) (n:=6) (by omega);have u:((r.length:Int)+1=0)=False:=eq_false (by omega);by_cases G:c=6
  ·have z:((c.toNat:Int)=6)=True:=M.trans (eq_true G);have F:=fun o nl P σ=>JR r o nl P (by simp at hl;omega) σ;have L:rl (c::r)=match jf r with|.error e=> .error e|.ok t=>if dm t=true then .ok t else .error 10:=by subst G;simp only[rl,if_true];cases jf r<;>rfl
   rw[L];have J:= @JS r;have D:List.take r.length (List.map u8 r)=List.map u8 r:=List.take_of_length_le (by simp);generalize jf r=g at*;have H:nl=false:=by cases nl with|false=>rfl|true=>have:=hnl rfl;cases this
   subst H;cases g with
   |error e=>have K:¬e=0:=J rfl;simp only[iN,cD,aD]at F⊢;refine gO df (j2 @z @u) tI ?_;intro id j;refine gO df (j3 @z @u @D) @F ?_;intro y d l;have i:=aA d;refine gO df (j3 @K d i) tI ?_;have E:=(j4 j l d i);intro A O;refine gK E A id fun w=>gK E A y fun q=> ?_;intro v;simp[AS.set,w,q]at v⊢;try exact v
   |ok t=>
    have I:=fun σ=>tY t σ;simp only[iN,cD,aD]at F I⊢;cases hf:dm t;all_goals
     rw[hf]at I;refine gO df (j2 @z @u) tI ?_;intro id j;refine gO df (j3 @z @u @D) @F ?_;intro y d l;have i:=aA d;refine gO df (j2 d i) @I ?_;have E:=(j4 j l d i);intro A O;refine gK E A id fun w=>gK E A y fun q=> ?_;intro v;simp[AS.set,w,q]at v⊢;try exact v
  ·have z:((c.toNat:Int)=6)=False:=M.trans (eq_false G);have L:rl (c::r)= .error 2:=by simp only[rl,G,if_false]
   rw[L];refine gO df (j2 @z @u) tI ?_;intro id j;refine gO df (j2 @z @u) tI ?_;simp[iN,cD,aD];exact aq j (lR _)
theorem eh (S:List Nat):aH Tryz.prog [] S:=mixed
theorem oU {P:Program}{a b c d e f u q o n j g:AV}(h1:AV.Wk P a u) (F:AV.Wk P b q) (E:AV.Wk P c o) (D:AV.Wk P d n) (A:AV.Wk P e j) (y:AV.Wk P f g):AV.Wk P (.agg [a,b,c,d,e,f]) (.agg [u,q,o,n,j,g]):=by
 intro G v h;cases h with
 |agg vs l h=>
  refine .agg vs l fun i w=> ?_
  match i,w with
  |0,_ =>exact h1 G _ (h 0 (by simp))
  |1,_ =>exact F G _ (h 1 (by simp))
  |2,_ =>exact E G _ (h 2 (by simp))
  |3,_ =>exact D G _ (h 3 (by simp))
  |4,_ =>exact A G _ (h 4 (by simp))
  |5,_ =>exact y G _ (h 5 (by simp))
def KR (s:Sg):AV:= .agg [.sc (.bool s.this),qy s.ps,.sc (.int .i64 s.ret.kind),.sc (.int .i64 s.ret.index),.sc (.int .i64 s.ret.bt),.sc (.bool s.ret.ref)]
def lk:Except Int Sg→Sg
 |.ok s=>s
 |.error _ =>⟨false,[],⟨0,0,0,false⟩⟩
def oz:Except Int (List Ty)→List Ty
 |.ok l=>l
 |.error _ => []
theorem gP:AV.Wk Tryz.prog .ai (qy []):=by simp[qy]
theorem sx (j i:Nat) (σ:AS) (K:AS→Prop) (g:K σ):bS Tryz.prog 211 [.ptr j 0,.ptr i 0] σ none K:=by
 refine bS.of Tryz.func211 rfl rfl (by simp[Tryz.ntmps211]) (by simp[Tryz.ntmps211]) ?_;refine br.sp rfl (il.mS (by simp[Tryz.ntmps211]) Tryz.underlying272 trivial (by kernel_rfl) rfl ?_);refine br.rest ?_;have d:aw Tryz.prog 272= .sc (.int .i64 0):=by kernel_rfl
 simp-implicitDefEqProofs [d,Tryz.ntmps211];refine gO eh tI tI ?_;exact g
theorem fO (g d:Nat) (e:Int) (v u q o n l z:AV) (σ:AS) (K:AS→Prop) (A:σ g=some (.cells 149 [v,u,q,o,n,l])) (y:σ d=some (.cells 31 [z])) (j:¬g=d)
 (w:K ((σ.set g (.cells 149 [.sc (.bool false),.ai,.sc (.int .i64 0),.sc (.int .i64 0),.sc (.int .i64 0),.sc (.bool false)])).set d (pB e))):bS Tryz.prog 211 [.ptr g 0,.ptr d 0] σ (some (s8 e)) K:=by
 have i:=aA j;refine bS.of Tryz.func211 rfl rfl (by simp[Tryz.ntmps211]) (by simp[Tryz.ntmps211]) ?_;refine br.sp rfl (il.oR (by simp[Tryz.ntmps211]) Tryz.underlying272 trivial rfl ?_);refine br.rest ?_;simp-implicitDefEqProofs [Tryz.ntmps211,s8,recV];refine gO eh (j3 @A @y @i) tI ?_;exact w
theorem Ag (j i:Nat) (σ:AS) (K:AS→Prop) (g:K σ):bS Tryz.prog 205 [.ptr j 0,.ptr i 0] σ none K:=by
 refine bS.of Tryz.func205 rfl rfl (by simp[Tryz.ntmps205]) (by simp[Tryz.ntmps205]) ?_;refine br.sp rfl (il.mS (by simp[Tryz.ntmps205]) Tryz.underlying272 trivial (by kernel_rfl) rfl ?_);refine br.rest ?_;have d:aw Tryz.prog 272= .sc (.int .i64 0):=by kernel_rfl
 simp-implicitDefEqProofs [d,Tryz.ntmps205];refine gO eh tI tI ?_;exact g
theorem gJ (g d:Nat) (e:Int) (l z:AV) (σ:AS) (K:AS→Prop) (q:σ g=some (.cells 47 [l])) (o:σ d=some (.cells 31 [z])) (j:¬g=d)
 (n:K ((σ.set g (.cells 47 [.ai])).set d (pB e))):bS Tryz.prog 205 [.ptr g 0,.ptr d 0] σ (some (s8 e)) K:=by
 have i:=aA j;refine bS.of Tryz.func205 rfl rfl (by simp[Tryz.ntmps205]) (by simp[Tryz.ntmps205]) ?_;refine br.sp rfl (il.oR (by simp[Tryz.ntmps205]) Tryz.underlying272 trivial rfl ?_);refine br.rest ?_;simp-implicitDefEqProofs [Tryz.ntmps205,s8,recV];refine gO eh (j3 @q @o @i) tI ?_;exact n
theorem Ah (b:List UInt8) (o:cL) (nl:Bool) (hnl:nl=true→b= []) (hl:b.length≤100000) (σ:AS):
 aa Tryz.prog 165 [.an 5 (b.map u8) o nl] σ (ao (.bQ [qy (oz (je b)),.sc (.int .i64 (cD (je b)))]) σ) No:=by
 refine aa.jj Tryz.func165 rfl rfl (by simp[Tryz.ntmps165]) (fun G1=> ?_);apply lg.seq;have Z:Tryz.f165.ntmps=25:=rfl;simp-implicitDefEqProofs only[Z];refine gO eh tI tI ?_;intro J a5;refine gO eh tI tI ?_;intro id3 j a4;have d:=aA j;apply lg.defer (by simp) (by decide+kernel);intro D;simp-implicitDefEqProofs only[Z];refine gO eh tI tI ?_;refine ag.of (oH b o nl hnl (by omega) _) ?_ (fun _ _ h=>h.elim);rintro r σ1 ⟨id,ab,rfl,rfl⟩;simp at ab;obtain⟨u,v,a9⟩:=ab;have w:=aA u;have A:=aA v;simp-implicitDefEqProofs;refine gO eh tI tI ?_;intro id5 g F G a0;have E:=aA g;have i:=aA F;have q:=aA G;have S:=fun e σ=>cE e σ;have H:=fun e σ=>cH e σ;have ho:=fun σ h=>zR id b 0 nl σ h (by omega) hl;have hp:=fun x hx σ h=>mb id b x nl σ h hx hnl hl;have V:=fun n hn x hx σ h=>Fs n hn id b x nl σ h hx hnl hl;simp only[jH]at ho hp V;cases P:eB b 0 with
 |error e=>
  have M:je b= .error e:=by unfold je ve;rw[P];rfl
  have I:=fun σ h=>RD.bad (ho σ h) P;refine gO eh E @I ?_;refine cw ?_;intro x;refine gJ J id3 e (.ai) (.sc (.int .i64 0)) _ _ (by simp[A,q,d]) (by simp[w,i]) d ?_;simp-implicitDefEqProofs [g,d,j,v,u,pB,M,oz,cD];refine⟨cq gP (Wk.refl _),?_⟩;repeat (first|exact lR _ |refine AS.ah ?_ (by assumption))
 |ok y=>
  obtain⟨c,a1⟩:=y;have I:=fun σ h=>RD.ok (ho σ h) P;have ac:=y6 P;simp only[sL]at I;have z7:=lP (c:=c) (n:=7) (by omega);by_cases Y:c=7;rotate_left
  ·have z:((c.toNat:Int)=7)=False:=z7.trans (eq_false Y);have M:je b= .error 2:=by unfold je ve;rw[P];simp only[Y,if_false];rfl
   refine gO eh (j3 @z g E) (j2 @I @S) ?_;refine gJ J id3 2 (.ai) (.sc (.int .i64 0)) _ _ (by simp[A,q,d]) (by simp[w,i]) d ?_;simp-implicitDefEqProofs [d,j,v,u,pB,M,oz,cD];refine⟨cq gP (Wk.refl _),?_⟩;repeat (first|exact lR _ |refine AS.ah ?_ (by assumption))
  have z:((c.toNat:Int)=7)=True:=z7.trans (eq_true Y);cases T:yg b a1 with
  |error e=>
   have M:je b= .error e:=by unfold je ve;rw[P];simp only[Y,if_true];rw[T];rfl
   have K:=fun σ h=>RD.bad (hp a1 ac σ h) T;refine gO eh (j3 @z g E) (j3 @I @H @K) ?_;refine cw ?_;intro x;refine gJ J id3 e (.ai) (.sc (.int .i64 0)) _ _ (by simp[A,q,d]) (by simp[w,i]) d ?_;simp-implicitDefEqProofs [g,d,j,v,u,pB,M,oz,cD];refine⟨cq gP (Wk.refl _),?_⟩;repeat (first|exact lR _ |refine AS.ah ?_ (by assumption))
  |ok y=>
   obtain⟨n,a2⟩:=y;have K:=fun σ h=>RD.ok (hp a1 ac σ h) T;have X:=D9 T;have bb:=(rT T).1;simp only[JG]at K;by_cases L:n≤12;rotate_left
   ·have M:je b= .error 4:=by unfold je ve;rw[P];simp only[Y,if_true];rw[T];simp only[L,if_false];rfl
    refine gO eh (j4 @z @L g E) (j4 @I @H @K @S) ?_;refine gJ J id3 4 (.ai) (.sc (.int .i64 0)) _ _ (by simp[A,q,d]) (by simp[w,i]) d ?_;simp-implicitDefEqProofs [d,j,v,u,pB,M,oz,cD];refine⟨cq gP (Wk.refl _),?_⟩;repeat (first|exact lR _ |refine AS.ah ?_ (by assumption))
   obtain⟨m,rfl⟩:∃m:Nat,n=m:=⟨n.toNat,by omega⟩;cases hL:eList b m a2 with
   |error e=>
    have M:je b= .error e:=by unfold je ve;rw[P];simp only[Y,if_true];rw[T];simp only[L,if_true,Int.toNat_natCast];rw[hL];rfl
    have O:=fun σ h=>RD.bad (V m (by omega) a2 X σ h) hL;refine gO eh (j4 @z @L g E) (j4 @I @H @K @O) ?_;refine cw ?_;intro x;refine gJ J id3 e (.ai) (.sc (.int .i64 0)) _ _ (by simp[A,q,d]) (by simp[w,i]) d ?_;simp-implicitDefEqProofs [g,d,j,v,u,pB,M,oz,cD];refine⟨cq gP (Wk.refl _),?_⟩;repeat (first|exact lR _ |refine AS.ah ?_ (by assumption))
   |ok y=>
    obtain⟨l,a3⟩:=y;have av:=xi X hL;have O:=fun σ h=>RD.ok (V m (by omega) a2 X σ h) hL;simp only[qy]at O;have Q:ve b= .ok (l,a3):=by unfold ve;rw[P];simp only[Y,if_true];rw[T];simp only[L,if_true,Int.toNat_natCast];rw[hL]
    by_cases U:a3<b.length
    ·have M:je b= .error 2:=by unfold je;rw[Q];simp[qa,U]
     have he:=fun σ h=>Al id b a3 nl σ h hl U;simp only[jH]at he;refine gO eh (j2 (j7 @z @L j d u v w) (j7 A g E F i G q)) (j5 @I @H @K @O @he) ?_;refine cw ?_;intro x;refine gJ J id3 2 (.an 49 (l.map cr) .aE (decide (l= []))) (.sc (.int .i64 0)) _ _ (by simp[A,q,d]) (by simp[w,i]) d ?_;simp-implicitDefEqProofs [g,d,j,v,u,pB,M,oz,cD];refine⟨cq gP (Wk.refl _),?_⟩;repeat (first|exact lR _ |refine AS.ah ?_ (by assumption))
    ·have M:je b= .ok l:=by unfold je;rw[Q];simp[qa,U]
     have he:=fun σ h=>Ak id b a3 nl σ h av hl (by omega);simp only[jH]at he;refine gO eh (j2 (j7 @z @L j d u v w) (j7 A g E F i G q)) (j5 @I @H @K @O @he) ?_;refine Ag J id3 _ _ ?_;simp-implicitDefEqProofs [A,w,q,i,d,M,oz,cD,qy];repeat (first|exact lR _ |refine AS.ah ?_ (by assumption))
end Sg
end Go.Proofs.YtknalmoackcpbaaGreat
