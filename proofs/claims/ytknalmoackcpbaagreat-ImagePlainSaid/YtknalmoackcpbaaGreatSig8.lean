/- Package slices: Repeat, of one byte. -/
import Derived.Test.YtknalmoackcpbaaGreatBody9
set_option maxRecDepth 100000
set_option maxHeartbeats 3200000
set_option linter.all false
open Go Go.AW Go.Proofs.Tryz List
namespace Go.Proofs.YtknalmoackcpbaaGreat
namespace Sg
abbrev ga:bW:=(.S 0 (.S 1 (.S 2 (.S 3 (.S 4 (.S 5 (.S 6 (.A 7 (.S 8 (.S 9 .D)) .Z))))))))
def cO (S:List Nat):bH prog [(9,ga)] S:=mixed
def Cj (n:Int) (l:n=0∨n=1∨n=2∨n=3) (σ:AS):ad prog 265 [.sc (.int .u64 1),.sc (.int .u64 n)] σ
 (ah (.bI [.sc (.int .u64 0),.sc (.int .u64 n)]) σ) No:=by
 have j:lr 64 0 4294967295=0:=by decide
 have i:lr 64 1 4294967295=1:=by decide
 have g:lr 64 2 4294967295=2:=by decide
 have d:lr 64 3 4294967295=3:=by decide
 have i0:IntKind.u64.wrap 0=0:=by decide
 have i1:IntKind.u64.wrap 1=1:=by decide
 have i2:IntKind.u64.wrap 2=2:=by decide
 have i3:IntKind.u64.wrap 3=3:=by decide
 rcases l with rfl|rfl|rfl|rfl
 ·refine ad.ob func265 ?_;exact gE aa (j8 @j @i @g @d @i0 @i1 @i2 @i3) tI
 ·refine ad.ob func265 ?_;exact gE aa (j8 @j @i @g @d @i0 @i1 @i2 @i3) tI
 ·refine ad.ob func265 ?_;exact gE aa (j8 @j @i @g @d @i0 @i1 @i2 @i3) tI
 ·refine ad.ob func265 ?_;exact gE aa (j8 @j @i @g @d @i0 @i1 @i2 @i3) tI
def Hu (n:Int) (d:n=0∨n=1∨n=2∨n=3) (σ:AS):ad prog 231 [.sc (.int .u64 1),.sc (.int .u64 n)] σ
 (ah (.bI [.sc (.int .u64 0),.sc (.int .u64 n)]) σ) No:=by
 have h:=fun σ=>Cj n d σ;refine ad.ob func231 ?_;exact gE aa tI @h
def GZ (c:UInt8) (o:cC) (n:Nat) (v:n≤3) (σ:AS):ad prog 184 [.ao 5 [u8 c] o false,zI n] σ
 (ah (.ao 5 ((List.replicate n c).map u8) .full false) σ) No:=by
 have h:=fun σ=>Hu n (by omega) σ;have i1:IntKind.u64.wrap 1=1:=by decide
 have u:n=0∨n=1∨n=2∨n=3:=by omega
 rcases u with rfl|rfl|rfl|rfl
 ·refine ad.ob func184 ?_;refine gO cO @i1 @h ?_;intro id l;rw[show jl 0 (AV.sc (.int .u8 0))= [] from rfl];repeat (first
   |refine g1 ?_
   |((first|refine g2 ?_ |((with_reducible apply dX 9 ga);refine dY mixed ?_));simp-implicitDefEqProofs [gU,cw])
   |(refine g3 ?_;try simp-implicitDefEqProofs [gU,cw]))
  refine aq.aQ (α:=(Nat)) (0) (fun j=>0-j) (fun j=>0≤j∧j≤0) [(4,?_),(7,?_)] (fun j=> [(8,zI j)]) (fun j=>σ.set id (.cells 5 (List.replicate j (u8 c)++List.replicate (0-j) (.sc (.int .u8 0))))) ?_ ?_ ?_ ?_;rotate_left 2
  ·exact gF tI
  ·(try dsimp only);(simp;done)
  ·exact⟨by omega,by omega⟩
  intro j d;try dsimp only at d⊢
  obtain⟨g,q⟩:=d;simp only[eZ];have i:j=0:=by omega
  rcases i with rfl
  ·clear g;refine gO (S:= [10]) cO (j2 @gU.eq_1 @cw.eq_1) tI ?_;refine aq.freeze 7 id (List.replicate 0 (u8 c)) (m:=0) (by simp) (by simp[*]) (by simp) (by simp) (by simp) ?_;exact gE cO tI tI
 ·refine ad.ob func184 ?_;refine gO cO @i1 @h ?_;intro id l;rw[show jl 1 (AV.sc (.int .u8 0))= [.sc (.int .u8 0)] from rfl];repeat (first
   |refine g1 ?_
   |((first|refine g2 ?_ |((with_reducible apply dX 9 ga);refine dY mixed ?_));simp-implicitDefEqProofs [gU,cw])
   |(refine g3 ?_;try simp-implicitDefEqProofs [gU,cw]))
  refine aq.aQ (α:=(Nat)) (1) (fun j=>1-j) (fun j=>1≤j∧j≤1) [(4,?_),(7,?_)] (fun j=> [(8,zI j)]) (fun j=>σ.set id (.cells 5 (List.replicate j (u8 c)++List.replicate (1-j) (.sc (.int .u8 0))))) ?_ ?_ ?_ ?_;rotate_left 2
  ·exact gF tI
  ·(try dsimp only);(simp;done)
  ·exact⟨by omega,by omega⟩
  intro j d;try dsimp only at d⊢
  obtain⟨g,q⟩:=d;simp only[eZ];have i:j=1:=by omega
  rcases i with rfl
  ·clear g;refine gO (S:= [10]) cO (j2 @gU.eq_1 @cw.eq_1) tI ?_;refine aq.freeze 7 id (List.replicate 1 (u8 c)) (m:=1) (by simp) (by simp[*]) (by simp) (by simp) (by simp) ?_;exact gE cO tI tI
 ·refine ad.ob func184 ?_;refine gO cO @i1 @h ?_;intro id l;rw[show jl 2 (AV.sc (.int .u8 0))= [.sc (.int .u8 0),.sc (.int .u8 0)] from rfl];repeat (first
   |refine g1 ?_
   |((first|refine g2 ?_ |((with_reducible apply dX 9 ga);refine dY mixed ?_));simp-implicitDefEqProofs [gU,cw])
   |(refine g3 ?_;try simp-implicitDefEqProofs [gU,cw]))
  refine aq.aQ (α:=(Nat)) (1) (fun j=>2-j) (fun j=>1≤j∧j≤2) [(4,?_),(7,?_)] (fun j=> [(8,zI j)]) (fun j=>σ.set id (.cells 5 (List.replicate j (u8 c)++List.replicate (2-j) (.sc (.int .u8 0))))) ?_ ?_ ?_ ?_;rotate_left 2
  ·exact gF tI
  ·(try dsimp only);(simp;done)
  ·exact⟨by omega,by omega⟩
  intro j d;try dsimp only at d⊢
  obtain⟨g,q⟩:=d;simp only[eZ];have i:j=1∨j=2:=by omega
  rcases i with rfl|rfl
  ·refine gO cO (j2 @gU.eq_1 @cw.eq_1) tI ?_;refine gB (2) (by(try dsimp only);(simp;done)) ?_;try dsimp only
   exact⟨by omega,by omega⟩
  ·clear g;refine gO (S:= [10]) cO (j2 @gU.eq_1 @cw.eq_1) tI ?_;refine aq.freeze 7 id (List.replicate 2 (u8 c)) (m:=2) (by simp) (by simp[*]) (by simp) (by simp) (by simp) ?_;exact gE cO tI tI
 ·refine ad.ob func184 ?_;refine gO cO @i1 @h ?_;intro id l;rw[show jl 3 (AV.sc (.int .u8 0))= [.sc (.int .u8 0),.sc (.int .u8 0),.sc (.int .u8 0)] from rfl];repeat (first
   |refine g1 ?_
   |((first|refine g2 ?_ |((with_reducible apply dX 9 ga);refine dY mixed ?_));simp-implicitDefEqProofs [gU,cw])
   |(refine g3 ?_;try simp-implicitDefEqProofs [gU,cw]))
  refine aq.aQ (α:=(Nat)) (1) (fun j=>3-j) (fun j=>1≤j∧j≤3) [(4,?_),(7,?_)] (fun j=> [(8,zI j)]) (fun j=>σ.set id (.cells 5 (List.replicate j (u8 c)++List.replicate (3-j) (.sc (.int .u8 0))))) ?_ ?_ ?_ ?_;rotate_left 2
  ·exact gF tI
  ·(try dsimp only);(simp;done)
  ·exact⟨by omega,by omega⟩
  intro j d;try dsimp only at d⊢
  obtain⟨g,q⟩:=d;simp only[eZ];have i:j=1∨j=2∨j=3:=by omega
  rcases i with rfl|rfl|rfl
  ·refine gO cO (j2 @gU.eq_1 @cw.eq_1) tI ?_;refine gB (2) (by(try dsimp only);(simp;done)) ?_;try dsimp only
   exact⟨by omega,by omega⟩
  ·refine gO cO (j2 @gU.eq_1 @cw.eq_1) tI ?_;refine gB (3) (by(try dsimp only);(simp;done)) ?_;try dsimp only
   exact⟨by omega,by omega⟩
  ·clear g;refine gO (S:= [10]) cO (j2 @gU.eq_1 @cw.eq_1) tI ?_;refine aq.freeze 7 id (List.replicate 3 (u8 c)) (m:=3) (by simp) (by simp[*]) (by simp) (by simp) (by simp) ?_;exact gE cO tI tI
def sQ (e:Int):AV:= .rM 272 (zI e)
def jy (id:Nat):AV:= .agg [.ptr id 0]
def zC (b:zY) (nl:Bool) (id:Nat) (e:Int) (σ:AS) (p:AV) (d:AS):Prop:=p=sQ e∧ ∃a:Int,d=σ.set id (bA b a nl)
def Yj {f:FuncId}{args:List AV}{σ d:AS}{v:AV}{K g:AV→AS→Prop}(h:ad prog f args σ No (ah v d)) (i:g v d):ag prog (.sc (.func (.func f) #[] #[])) args σ K g:=
 .of h (fun _ _ h=>h.elim) (fun r j h=>by obtain⟨rfl,rfl⟩:=h;exact i)
def Vf {f:FuncId}{args:List AV}{b:zY}{nl:Bool}{id:Nat}{e:Int}{d σ:AS}{K g:AV→AS→Prop}(h:ad prog f args d No (zC b nl id e σ)) (i:∀a:Int,g (sQ e) (σ.set id (bA b a nl))):ag prog (.sc (.func (.func f) #[] #[])) args d K g:=
 .of h (fun _ _ h=>h.elim) (fun r j h=>by obtain⟨rfl,a,rfl⟩:=h;exact i a)
def cz {b:zY}{nl:Bool}{id:Nat}{e:Int}{σ:AS}{g:AV→AS→Prop}(h:∀a:Int,g (sQ e) (σ.set id (bA b a nl))):∀r d,zC b nl id e σ r d→g r d:=by rintro _ _ ⟨rfl,a,rfl⟩;exact h a
def aj {σ g:AS}{i:Nat}{x:bP}(h:AS.le σ g):AS.le (σ.set i x) (g.set i x):=by
 intro j y d;by_cases e:j=i
 ·subst e;simpa[AS.set]using d
 ·simp[AS.set,e]at d⊢;exact h j y d
def fF {σ:AS}{i:Nat}{x:bP}(h:σ i=some x):σ.set i x=σ:=by
 funext j;by_cases e:j=i
 ·subst e;simp[AS.set,h]
 ·simp[AS.set,e]
def RD {α:Type}(x:Except Int (α×Nat)) (f:α→AV) (b:zY) (nl:Bool) (id:Nat) (σ:AS) (r:AV) (d:AS):Prop:= ∃v a,x= .ok (v,a)∧r=f v∧d=σ.set id (bA b (a:Nat) nl)
def TD {α:Type}(x:Except Int α) (b:zY) (nl:Bool) (id:Nat) (σ:AS) (p:AV) (d:AS):Prop:= ∃e,x= .error e∧zC b nl id e σ p d
def RD.ok {α:Type}{f:FuncId}{args:List AV}{x:Except Int (α×Nat)}{g:α→AV}{b:zY}{nl:Bool}{id:Nat}{d σ:AS}{v:α}{a:Nat}(h:ad prog f args d (RD x g b nl id σ) (TD x b nl id σ)) (i:x= .ok (v,a)):
 ad prog f args d (ah (g v) (σ.set id (bA b a nl))) No:=
 h.mono (fun r j l=>by obtain⟨o,q,h1,rfl,rfl⟩:=l;rw[i]at h1;cases h1;exact⟨rfl,rfl⟩) (fun p j n=>by obtain⟨e,h1,_⟩:=n;rw[i]at h1;cases h1)
def RD.bad {α:Type}{f:FuncId}{args:List AV}{x:Except Int (α×Nat)}{g:α→AV}{b:zY}{nl:Bool}{id:Nat}{d σ:AS}{e:Int}(h:ad prog f args d (RD x g b nl id σ) (TD x b nl id σ)) (i:x= .error e):
 ad prog f args d No (zC b nl id e σ):=
 h.mono (fun r j l=>by obtain⟨q,u,h1,_,_⟩:=l;rw[i]at h1;cases h1) (fun p j n=>by obtain⟨e,h1,o⟩:=n;rw[i]at h1;cases h1;exact o)
def RD.of {α:Type}{f:FuncId}{args:List AV}{x:Except Int (α×Nat)}{g:α→AV}{b:zY}{nl:Bool}{id:Nat}{d σ:AS}
 (h1:∀v a,x= .ok (v,a)→ad prog f args d (ah (g v) (σ.set id (bA b (a:Nat) nl))) No) (l:∀e,x= .error e→ad prog f args d No (zC b nl id e σ)):ad prog f args d (RD x g b nl id σ) (TD x b nl id σ):=by
 cases i:x with
 |error e=>exact(l e i).mono (fun _ _ h=>h.elim) (fun p j h=>⟨e,rfl,h⟩)
 |ok y=>obtain⟨v,a⟩:=y;exact(h1 v a i).mono (fun r j h=>by obtain⟨rfl,rfl⟩:=h;exact⟨v,a,rfl,rfl,rfl⟩) (fun _ _ h=>h.elim)
def cD (e:Int) (σ:AS):ad prog 206 [zB true,zI e] σ (ah (.bI []) σ) No:=by refine ad.ob func206 ?_;exact gE aa tI tI
def cy (e:Int) (σ:AS):ad prog 206 [zB false,zI e] σ No (ah (sQ e) σ):=by refine ad.ob func206 ?_;refine gO aa tI tI ?_;exact⟨σ,lR _,rfl,rfl⟩
def sE (c:UInt8):AV:= .sc (.int .u8 c.toNat)
def Kw (n:Int):AV:=zI n
def K2 {b:zY}{a:Nat}{c:UInt8}{d:Nat}(h:eB b a= .ok (c,d)):a<b.length∧d=a+1∧c=b.getD a 0:=by
 unfold eB at h;split at h
 ·cases h;exact⟨by assumption,rfl,rfl⟩
 ·cases h
def Ja {b:zY}{a:Nat}(h:a<b.length):aY (cu b a 1)=((b.getD a 0).toNat:Int):=by
 have e:cu b a ((1:Nat):Int)= [b.getD a 0]:=by rw[mO];show(b.drop a).take 1= [b.getD a 0];rw[drop_eq_getElem_cons h,getD_eq_getElem?_getD,getElem?_eq_getElem h];rfl
 have e:cu b a 1= [b.getD a 0]:=e;rw[e];simp only[aY];omega
section
variable (id:Nat) (b:zY) (a:Nat) (nl:Bool) (σ:AS) (h:σ id=some (bA b a nl)) (ha:a≤b.length) (hnl:nl=true→b= []) (hb:b.length≤100000)
include h ha hb
def Ak:ad prog 207 [jy id] σ (RD (eB b a) sE b nl id σ) (TD (eB b a) b nl id σ):=by
 refine RD.of (fun c y he=> ?_) (fun e he=> ?_)
 ·obtain⟨q,rfl,v⟩:=K2 he;have n:=fun σ h=>lN id b a 1 nl σ h (by omega) (by omega) (by omega) (by decide) (by omega);rw[Ja q,←v]at n;have u:=c.toNat_lt;have hw:IntKind.u8.wrap (c.toNat:Int)=c.toNat:=by rw[Bx];omega
  have i:=fun σ=>cD 0 σ;refine ad.ob func207 ?_;simp only[jy,sE];refine gO aa tI tI ?_;intro l g;have d:¬id=l:=nq h g;have j:=aK d;refine gO aa (j5 @hw @underlying137 @underlying5 d @h) (j2 @n @i) ?_;exact aj (an g (lR _))
 ·have o:¬a<b.length∧e=1:=by
   unfold eB at he;split at he
   ·cases he
   ·cases he;exact⟨by assumption,rfl⟩
  obtain⟨o,rfl⟩:=o;have w:tz b a 1=1:=by simp[tz,wide];omega
  have n:=fun σ h=>vw id b a 1 nl σ h (by omega) (by omega) (by omega) (by omega);rw[w]at n;have i:=fun σ=>cy 1 σ;refine ad.ob func207 ?_;simp only[jy];refine gO aa tI tI ?_;intro l g;have d:¬id=l:=nq h g;have j:=aK d;refine gO aa (j2 d @h) (j2 @n @i) ?_;exact⟨σ,an g (lR _),rfl,a,(fF h).symm⟩
include hnl
def lM:ad prog 208 [jy id] σ (RD (xw b a) Kw b nl id σ) (TD (xw b a) b nl id σ):=by
 obtain⟨⟨x,k,e⟩,hu⟩:∃t,pw (b.drop a)=t:=⟨_,rfl⟩;have hf:=sS _ _ _ _ hu;have o:=fun σ h=>yZ id b a nl σ hnl h (by omega) (by omega) (by omega) x k e (by simpa using hu);unfold xw;rw[hu];simp only;by_cases he:e=0
 ·subst he;obtain⟨k1,k4,_⟩:=hf.2.2 rfl;rw[if_pos rfl];refine RD.of (fun v q n=> ?_) (fun e n=>by cases n);cases n;simp only[if_true]at o;have i:=fun σ=>cD 0 σ;refine ad.ob func208 ?_;simp only[jy,Kw];refine gO aa tI tI ?_;intro l g;have d:¬id=l:=nq h g;have j:=aK d;refine gO aa (j2 d @h) (j2 @o @i) ?_;rw[show max k 0=k by omega];exact aj (an g (lR _))
 ·rw[if_neg he];refine RD.of (fun v q n=>by cases n) (fun u n=> ?_);cases n;simp only[he,if_false]at o;have i:=fun σ=>cy e σ;refine ad.ob func208 ?_;simp only[jy];refine gO aa tI tI ?_;intro l g;have d:¬id=l:=nq h g;have j:=aK d;refine gO aa (j3 @he d @h) (j2 @o @i) ?_;exact⟨σ,an g (lR _),rfl,a,(fF h).symm⟩
def gg:ad prog 246 [jy id] σ (RD (C1 b a) Kw b nl id σ) (TD (C1 b a) b nl id σ):=by
 have M:=fun σ h=>lM id b a nl σ h ha hnl hb;unfold C1;cases F:xw b a with
 |error e=>refine RD.of (fun v Q w=>by cases w) (fun Y w=> ?_);cases w;have j:=fun σ h=>RD.bad (M σ h) F;simp only[jy]at j⊢;refine ad.ob func246 ?_;refine gO aa tI tI ?_;intro o g;have d:¬id=o:=nq h g;have i:=aK d;refine gO aa (j2 d @h) @j ?_;refine cz ?_;intro x;exact⟨_,aj (an g (lR _)),rfl,x,rfl⟩
 |ok y=>
  obtain⟨n,a1⟩:=y;obtain⟨X,n1,_,_⟩:=oK F;have j:=fun σ h=>RD.ok (M σ h) F;have E:=fun σ=>C6 (if 1048576<n then 1048576 else n) σ;rw[HW]at E;have u:Eo n=(decide ((bM n).2.2=0)&&(decide ((bM n).1=0)&&decide ((bM n).2.1≤32))):=rfl;have G:= @zp n;simp only;generalize bM n=C at*;obtain⟨P,H,O⟩:=C;simp only at E u G⊢;cases q:Eo n with
  |true=>
   rw[if_pos rfl];refine RD.of (fun v Q w=> ?_) (fun e w=>by cases w);cases w;obtain⟨_,V,T⟩:=G q;rw[q]at u;have I:O=0∧P=0∧H≤32:=by simpa using u.symm
   obtain⟨rfl,rfl,I⟩:=I;have hw:zW (H-1)=H-1:=az (by omega) (by omega);have l:=fun σ=>cD 5 σ;simp only[jy,Kw]at j⊢;refine ad.ob func246 ?_;refine gO aa tI tI ?_;intro o g;have d:¬id=o:=nq h g;have i:=aK d;refine gO aa (j4 @I @hw d @h) (j3 @j @E @l) ?_;exact aj (an g (lR _))
  |false=>
   rw[if_neg (by simp)];refine RD.of (fun v Q w=>by cases w) (fun e w=> ?_);cases w;rw[q]at u;have l:=fun σ=>cy 5 σ;simp only[jy,Kw]at j⊢;refine ad.ob func246 ?_;refine gO aa tI tI ?_;intro o g;have d:¬id=o:=nq h g;have i:=aK d;by_cases J:O=0<;>by_cases L:P=0<;>by_cases K:H≤32;all_goals first
    |(exfalso;simp[L,K,J]at u;done)
    |skip
   all_goals
    refine gO aa (j5 @L @K @J d @h) (j3 @j @E @l) ?_;exact⟨_,aj (an g (lR _)),rfl,_,rfl⟩
omit hnl
def AN (l:b.length≤a):ad prog 203 [jy id] σ (ah (.bI []) σ) No:=by have hle:=fun σ h=>je id b a nl σ h (by omega) (by omega) (by omega);have n:((b.length:Int)-a=0)=True:=eq_true (by omega);have i:=fun σ=>cD 2 σ;refine ad.ob func203 ?_;simp only[jy];refine gO aa tI tI ?_;intro j g;have d:¬id=j:=nq h g;refine gO aa (j3 @n d @h) (j2 @hle @i) ?_;exact an g (lR _)
omit ha in
def AR (l:a<b.length):ad prog 203 [jy id] σ No (zC b nl id 2 σ):=by have hle:=fun σ h=>je id b a nl σ h (by omega) (by omega) (by omega);have n:((b.length:Int)-a=0)=False:=eq_false (by omega);have i:=fun σ=>cy 2 σ;refine ad.ob func203 ?_;simp only[jy];refine gO aa tI tI ?_;intro j g;have d:¬id=j:=nq h g;refine gO aa (j3 @n d @h) (j2 @hle @i) ?_;exact⟨σ,an g (lR _),rfl,a,(fF h).symm⟩
end
def FG (l:zY) (i:Nat) (nl:Bool) (hnl:nl=true→l= []) (hl:l.length≤1000) (t:Ty) (ht:aP t=true) (σ:AS) (h0:σ i=none):
 ad prog 135 [.ao 5 (l.map u8) (.tok i) nl,cF t] (σ.set i (.tok l.length))
  (kQ (fun O=> .ao 5 ((l++hU t).map u8) (.tok O) false) (l++hU t).length σ) No:=by
 obtain⟨d0,d3,M,I⟩:=kv ht;obtain⟨k,x,d,y⟩:=t;simp only at d0 d3 M I;obtain⟨n,rfl⟩:∃n:Nat,d=n:=⟨d.toNat,by omega⟩;have j:=fun σ=>GZ 29 .full n (by omega) σ;have q:=fun(b:UInt8) v h1 w σ=>rW (l++((if y=true then [16]else [])++(List.replicate n 29++ [b]))) (.tok i) false (by simp) (by cases y<;>simp<;>omega) v h1 w σ;have K:=fun σ=>Gt 0 (x+1) σ;generalize L:hU ⟨k,x,n,y⟩=B;refine ad.ob func135 ?_;simp only[cF];cases y;all_goals
  simp[append_assoc]at q;rcases I with⟨rfl,_,h,rfl⟩|⟨rfl,rfl⟩|⟨rfl,rfl⟩|⟨rfl,rfl⟩|⟨rfl,J⟩|⟨rfl,J⟩|⟨rfl,J⟩
 all_goals try (cases h;done)
 all_goals
  simp[hU,pq]at L;subst L;refine gO aa tI tI ?_;intro id g o;first
   |(refine gO aa g @j ?_
     exact da i h0 (by simp) (by simpa[Nat.add_assoc]using AS.aj (lR _) (by simp[g,o])))
   |(have E:(x<0)=False:=by simp;omega
     have q:=q 19 x (by omega) (by omega);refine gO aa (j2 @E g) (j2 @j @q) ?_;intro u H G w;refine gO aa tI tI ?_;exact da u w (by simp) (by simpa[Nat.add_assoc]using aj (AS.aj (AS.aj (lR _) h0) (by simp[o]))))
   |(have E:((4*(x+1))<0)=False:=by simp;omega
     have F:=q 18 (4*(x+1)) (by omega) (by omega);have q:=q 17 (4*(x+1)) (by omega) (by omega);rw[show mG 0 (x+1)=(4*(x+1),0) by unfold mG;rw[if_neg (by omega),if_neg (by omega),if_neg (by omega)];simp]at K;have hw:zW (x+1)=x+1:=az (by omega) (by omega);refine gO aa (j3 @E @hw g) (j4 @j @q @F @K) ?_;intro u H G w;refine gO aa tI tI ?_;exact da u w (by simp) (by simpa[Nat.add_assoc]using aj (AS.aj (AS.aj (lR _) h0) (by simp[o]))))
def lC {c:UInt8}{n:Nat}(d:n<256):((c.toNat:Int)=(n:Int))=(c=UInt8.ofNat n):=by
 simp only[eq_iff_iff];constructor
 ·intro h;apply UInt8.toNat_inj.1;simp;omega
 ·intro h;subst h;simp;omega
def Ve (k i:Int) (d:Nat) (r:Bool):bP:= .cells 49 [zI k,zI i,zI d,zB r]
def dB (k i:Int) (d:Nat) (r:Bool):Ve k i d r= .cells 49 [zI k,zI i,zI d,zB r]:=rfl
def fK (P:Program) {α:Type}(I:α→Prop) (fr:α→List (Nat×AV)) (st:α→AS) (s:Fr) (σ:AS):Prop:= ∃v,I v∧aN P s (iO (fr v))∧AS.le (st v) σ
def fK.mk {P:Program}{α:Type}{I:α→Prop}{fr:α→List (Nat×AV)}{st:α→AS}{s:Fr}{σ:AS}(v:α) (h1:aN P s (iO (fr v))) (g:AS.le (st v) σ) (d:I v):fK P I fr st s σ:=⟨v,d,h1,g⟩
@[congr] def QF {P:Program}{α:Type}{I:α→Prop}{fr:α→List (Nat×AV)}{st:α→AS}{s g:Fr}{σ d:AS}(h1:s=g) (i:σ=d):fK P I fr st s σ=fK P I fr st g d:=by rw[h1,i]
def xC {P:Program}{n:Nat}{ds:List Deferred}{Q:AQ}{s:Fr}{σ:AS}{α:Type}{x y:Code}(I:α→Prop) (fr:α→List (Nat×AV)) (st:α→AS) (h1:aq P n ds x (dF (fK P I fr st) Q) s σ)
 (d:∀v,I v→aq P n ds y Q (iO (fr v)) (st v)):aq P n ds x (dF (aq P n ds y Q) Q) s σ:=by
 refine h1.mono fun e j g h=> ?_;cases e with
 |normal=>obtain⟨v,i1,i2,i3⟩:=h;exact(d v i1).weaken i2 i3
 |exit i=>exact h
 |ret=>exact h
 |panic x=>exact h
def zm {b:zY}{a:Nat}{c:UInt8}{d:Nat}(h:eB b a= .ok (c,d)):d≤b.length:=by have:=K2 h;omega
def EH {b:zY}{a:Nat}{n:Int}{d:Nat}(h:xw b a= .ok (n,d)):d≤b.length:=by have:=oK h;have:=this.2.2.1.len;omega
def II (id:Nat) (b:zY) (a:Nat) (nl:Bool) (σ:AS) (h:σ id=some (bA b a nl)) (ha:a≤b.length) (hnl:nl=true→b= []) (hb:b.length≤100000):
 ad prog 202 [jy id] σ (RD (oH b a) cF b nl id σ) (TD (oH b a) b nl id σ):=by
 have ho:=fun x σ h hx=>Ak id b x nl σ h hx hb;have hi:=fun x σ h hx=>gg id b x nl σ h hx hnl hb;have hp:=fun x σ h hx=>lM id b x nl σ h hx hnl hb;refine ad.ob func202 ?_;simp only[jy]at ho hi hp⊢;refine gO aa tI tI ?_;intro cb Y;refine gO aa tI tI ?_;intro bv G X;have K:=aK G;refine gO aa tI tI ?_;intro id3 u j M;have ac:=aK u;have af:=aK j;have l:¬id=cb:=nq h Y;have ar:=aK l;have o:¬id=bv:=nq h X;have Q:=aK o;have g:¬id=id3:=nq h M;have P:=aK g;cases hB:eB b a with
 |error e=>
  have hX:oH b a= .error e:=by unfold oH;rw[hB]
  have a9:=fun σ h=>RD.bad (ho a σ h ha) hB;refine gO aa (j6 G j l @h o g) @a9 ?_;refine cz ?_;intro x;refine⟨_,?_,e,hX,rfl,x,rfl⟩;exact aj (AS.aj (AS.aj (AS.aj (lR _) Y) X) M)
 |ok y=>
  obtain⟨c,a1⟩:=y;have a9:=fun σ h=>RD.ok (ho a σ h ha) hB;have b0:=zm hB;simp only[sE]at a9;obtain⟨B,d5,J,v,bc,c5⟩:=FP σ (.cells 275 [.ptr id 0]) (.cells 49 [zI 0,zI 0,zI 0,zB false]) Y X K;simp only[d5];clear d5;have eb:B id=some (bA b a nl):=by rw[bc id l o];exact h
  have er:B id3=none:=by rw[bc id3 j u];exact M
  have db:AS.le σ B:=c5 B fun _ _ _ _ h=>h;have F:∀(rf:Bool) (k i:Int) (d:Nat) (x y:bP),AS.le (σ.set id y) ((B.set id3 x).set id y):=fun _ _ _ _ x y=>aj (AS.aj db M);refine gO (S:= [3]) aa (j4 j g @J @eb) @a9 ?_;have ca:=lC (c:=c) (n:=16) (by omega)
  (with_reducible apply aq.region);simp-implicitDefEqProofs
  repeat (with_reducible refine j2 (by first|omega|assumption|decide) ?_)
  try (with_reducible apply aq.seq)
  refine xC (α:=Bool×UInt8×Nat) (fun x=>Bs b x.1 3 0 x.2.1 x.2.2=oH b a∧x.2.2≤b.length) (fun x=> [(1,.ptr cb 0),(2,.ptr bv 0),(3,.ptr id3 0),(4,sE x.2.1)]) (fun x=>(B.set id3 (Ve 0 0 0 x.1)).set id (bA b x.2.2 nl)) ?_ ?_
  ·by_cases bb:c=16
   ·have z:((c.toNat:Int)=16)=True:=ca.trans (eq_true bb);cases v:eB b a1 with
    |error e=>
     have hX:oH b a= .error e:=by unfold oH;rw[hB];simp only[bb,if_true];rw[v]
     have V:=fun σ h=>RD.bad (ho a1 σ h b0) v;refine gO aa (j5 @z j l g @J) @V ?_;refine cz ?_;try simp-implicitDefEqProofs
     intro x;exact⟨_,F true 0 0 0 _ _,e,hX,rfl,x,rfl⟩
    |ok y=>
     obtain⟨c2,a2⟩:=y;have V:=fun σ h=>RD.ok (ho a1 σ h b0) v;have cd:=zm v;simp only[sE]at V;refine gO aa (j5 @z j l g @J) @V ?_;refine fK.mk ((true,c2,a2)) (gF @sE.eq_1) (by(try dsimp only);(simp[dB])) ?_;try dsimp only
     exact⟨by unfold oH;rw[hB];simp only[bb,if_true];rw[v],cd⟩
   ·have z:((c.toNat:Int)=16)=False:=ca.trans (eq_false bb);refine gO aa @z tI ?_;refine fK.mk ((false,c,a1)) (gF @sE.eq_1) (by(try dsimp only);(simp[dB])) ?_;try dsimp only
    exact⟨by unfold oH;rw[hB];simp only[bb,if_false],b0⟩
  ·rintro⟨rf,c0,a0⟩ ⟨ce,dp⟩;simp only at ce dp⊢;clear a9 ca hB b0;refine gO aa tI tI ?_;refine aq.aQ (α:=(Nat)×(Nat)×(UInt8)×(Nat)) ((3,0,c0,a0)) (fun⟨f,d,c,q⟩=>f) (fun⟨f,d,c,q⟩=>d+f=3∧Bs b rf f d c q=oH b a∧q≤b.length) [(1,?_),(2,?_),(3,?_)] (fun⟨f,d,c,q⟩=> [(4,sE c)]) (fun⟨f,d,c,q⟩=>(B.set id3 (Ve 0 0 d rf)).set id (bA b q nl)) ?_ ?_ ?_ ?_;rotate_left 3
   ·exact gF tI
   ·exact gT
   ·exact⟨rfl,ce,dp⟩
   intro x_ c7;obtain⟨f,d,c,q⟩:=x_;try dsimp only at c7⊢
   obtain⟨ek,hX,hq⟩:=c7;simp only[eZ];have cj:=lC (c:=c) (n:=29) (by omega);by_cases av:c=29
   ·have z:((c.toNat:Int)=29)=True:=cj.trans (eq_true av);cases f with
    |zero=>
     have E:oH b a= .error 6:=by rw[←hX];simp[Bs,av]
     obtain rfl:d=3:=by omega
     have w:=fun σ=>cy 6 σ;refine gO aa (j4 @z @sE.eq_1 @dB g) @w ?_;exact⟨_,F true 0 0 0 _ _,6,E,rfl,q,rfl⟩
    |succ f=>
     have dl:(d:Int)+1≤3:=by omega
     have w:=fun σ=>cD 6 σ;have b4:zW ((d:Int)+1)=((d+1:Nat):Int):=bQ (by omega);cases v:eB b q with
     |error e=>
      have E:oH b a= .error e:=by rw[←hX];simp[Bs,av,v]
      have V:=fun σ h=>RD.bad (ho q σ h hq) v;refine gO aa (And.intro (j7 @z @sE.eq_1 @dB @dl j l g) (j2 @J @b4)) (j2 @V @w) ?_;refine cz ?_;try simp-implicitDefEqProofs
      intro x;exact⟨_,F true 0 0 0 _ _,e,E,rfl,x,rfl⟩
     |ok y=>
      obtain⟨c2,a2⟩:=y;have V:=fun σ h=>RD.ok (ho q σ h hq) v;have cd:=zm v;simp only[sE]at V;refine gO aa (And.intro (j7 @z @sE.eq_1 @dB @dl j l g) (j2 @J @b4)) (j2 @V @w) ?_;refine gB ((f,d+1,c2,a2)) (by(try dsimp only);(simp)) ?_;try dsimp only
      exact⟨by omega,by rw[←hX];simp[Bs,av,v],cd⟩
   ·have z:((c.toNat:Int)=29)=False:=cj.trans (eq_false av);have hK:yd b rf d c q=oH b a:=by rw[←hX];cases f<;>simp[Bs,av]
    have em:d≤3:=by omega
    clear ce hX;have L:∀(x y:bP) (z:Nat),AS.le (σ.set id (bA b (z:Int) nl)) (((B.set id3 x).set id (bA b (z:Int) nl)).set bv y):=fun x y z=>by
     have F_:=(j2 (j7 X M o Q G K u) (j2 (j7 ac j af ar l @h Q) (j7 o P g @J @v g P)));intro j_ y_;refine gK F_ j_ id fun d3=>gK F_ j_ bv fun be=>gK F_ j_ id3 fun ch=> ?_;intro a8;simp[AS.set,d3,be,ch]at a8⊢;try exact a8
     by_cases d4:j_=cb
     ·subst d4;rw[Y]at a8;cases a8
     ·rw[bc j_ d4 be];exact a8
    have w1:=lC (c:=c) (n:=1) (by omega);have w8:=lC (c:=c) (n:=8) (by omega);have c4:=lC (c:=c) (n:=10) (by omega);have ck:=lC (c:=c) (n:=28) (by omega);have cs:=lC (c:=c) (n:=18) (by omega);have c3:=lC (c:=c) (n:=17) (by omega);have cl:=lC (c:=c) (n:=19) (by omega);by_cases c1:c=1
    ·have v1:((c.toNat:Int)=1)=True:=w1.trans (eq_true c1);have w:=fun e σ=>cD e σ;have am:=fun e σ=>cy e σ;by_cases hr:rf=true
     ·have E:oH b a= .error 2:=by rw[←hK];simp[yd,c1,hr]
      refine gO aa (j6 @z @sE.eq_1 @dB @v1 @hr g) @am ?_;exact⟨_,F true 0 0 0 _ _,2,E,rfl,q,rfl⟩
     obtain rfl:rf=false:=by simpa using hr
     by_cases dn:d=0
     ·subst dn;have I:oH b a= .ok (⟨1,0,0,false⟩,q):=by rw[←hK];simp[yd,c1]
      refine gO aa (j8 @z @sE.eq_1 @dB @v1 u o g @v) @w ?_;exact⟨_,_,Wk.refl _,L _ _ _,_,q,I,rfl,rfl⟩
     ·have E:oH b a= .error 2:=by rw[←hK];simp[yd,c1];omega
      refine gO aa (j6 @z @sE.eq_1 @dB @v1 @dn g) @am ?_;exact⟨_,F true 0 0 0 _ _,2,E,rfl,q,rfl⟩
    have v1:((c.toNat:Int)=1)=False:=w1.trans (eq_false c1);by_cases c8:c=8
    ·have v8:((c.toNat:Int)=8)=True:=w8.trans (eq_true c8);have I:oH b a= .ok (⟨2,0,d,rf⟩,q):=by rw[←hK];simp[yd,c8]
     refine gO aa (And.intro (j7 @z @sE.eq_1 @dB @v1 @v8 u o) (j2 g @v)) tI ?_;exact⟨_,_,Wk.refl _,L _ _ _,_,q,I,rfl,rfl⟩
    have v8:((c.toNat:Int)=8)=False:=w8.trans (eq_false c8);by_cases b3:c=10
    ·have v10:((c.toNat:Int)=10)=True:=c4.trans (eq_true b3);have I:oH b a= .ok (⟨3,0,d,rf⟩,q):=by rw[←hK];simp[yd,b3]
     refine gO aa (And.intro (j7 @z @sE.eq_1 @dB @v1 @v8 @v10 u) (j3 o g @v)) tI ?_;exact⟨_,_,Wk.refl _,L _ _ _,_,q,I,rfl,rfl⟩
    have v10:((c.toNat:Int)=10)=False:=c4.trans (eq_false b3);by_cases b2:c=28
    ·have O:((c.toNat:Int)=28)=True:=ck.trans (eq_true b2);have I:oH b a= .ok (⟨4,0,d,rf⟩,q):=by rw[←hK];simp[yd,b2]
     refine gO aa (And.intro (j7 @z @sE.eq_1 @dB @v1 @v8 @v10 @O) (j4 u o g @v)) tI ?_;exact⟨_,_,Wk.refl _,L _ _ _,_,q,I,rfl,rfl⟩
    have O:((c.toNat:Int)=28)=False:=ck.trans (eq_false b2);by_cases bf:c=18
    ·have T:((c.toNat:Int)=18)=True:=cs.trans (eq_true bf);cases hN:C1 b q with
     |error e=>
      have E:oH b a= .error e:=by rw[←hK];simp[yd,bf,hN,Br]
      have H:=fun σ h=>RD.bad (hi q σ h hq) hN;refine gO aa (And.intro (j7 @z @sE.eq_1 @dB @v1 @v8 @v10 @O) (j8 @T u j l o g @J @v)) @H ?_;refine cz ?_;try simp-implicitDefEqProofs
      intro x;exact⟨_,F true 0 0 0 _ _,e,E,rfl,x,rfl⟩
     |ok y=>
      obtain⟨i,a2⟩:=y;have H:=fun σ h=>RD.ok (hi q σ h hq) hN;simp only[Kw]at H;have I:oH b a= .ok (⟨5,i,d,rf⟩,a2):=by rw[←hK];simp[yd,bf,hN,Br]
      refine gO aa (And.intro (j7 @z @sE.eq_1 @dB @v1 @v8 @v10 @O) (j8 @T u j l o g @J @v)) @H ?_;exact⟨_,_,Wk.refl _,L _ _ _,_,a2,I,rfl,rfl⟩
    have T:((c.toNat:Int)=18)=False:=cs.trans (eq_false bf);by_cases bs:c=17
    ·have ab:((c.toNat:Int)=17)=True:=c3.trans (eq_true bs);cases hN:C1 b q with
     |error e=>
      have E:oH b a= .error e:=by rw[←hK];simp[yd,bs,hN,Br]
      have H:=fun σ h=>RD.bad (hi q σ h hq) hN;refine gO aa (And.intro (j7 @z @sE.eq_1 @dB @v1 @v8 @v10 @O) (And.intro (j7 @T @ab u j l o g) (j2 @J @v))) @H ?_;refine cz ?_;try simp-implicitDefEqProofs
      intro x;exact⟨_,F true 0 0 0 _ _,e,E,rfl,x,rfl⟩
     |ok y=>
      obtain⟨i,a2⟩:=y;have H:=fun σ h=>RD.ok (hi q σ h hq) hN;simp only[Kw]at H;have I:oH b a= .ok (⟨6,i,d,rf⟩,a2):=by rw[←hK];simp[yd,bs,hN,Br]
      refine gO aa (And.intro (j7 @z @sE.eq_1 @dB @v1 @v8 @v10 @O) (And.intro (j7 @T @ab u j l o g) (j2 @J @v))) @H ?_;exact⟨_,_,Wk.refl _,L _ _ _,_,a2,I,rfl,rfl⟩
    have ab:((c.toNat:Int)=17)=False:=c3.trans (eq_false bs);by_cases a3:c=19
    ·have a7:((c.toNat:Int)=19)=True:=cl.trans (eq_true a3);cases hN:xw b q with
     |error e=>
      have E:oH b a= .error e:=by rw[←hK];simp[yd,a3,hN,Br,KZ]
      have H:=fun σ h=>RD.bad (hp q σ h hq) hN;refine gO aa (And.intro (j7 @z @sE.eq_1 @dB @v1 @v8 @v10 @O) (j6 @T @ab @a7 j l @J)) @H ?_;refine cz ?_;try simp-implicitDefEqProofs
      intro x;exact⟨_,F true 0 0 0 _ _,e,E,rfl,x,rfl⟩
     |ok y=>
      obtain⟨i,a2⟩:=y;have H:=fun σ h=>RD.ok (hp q σ h hq) hN;simp only[Kw]at H;have w:=fun e σ=>cD e σ;have am:=fun e σ=>cy e σ;by_cases h7:i≤7
      ·have I:oH b a= .ok (⟨7,i,d,rf⟩,a2):=by rw[←hK];simp[yd,a3,hN,Br,KZ,h7]
       refine gO aa (And.intro (j7 @z @sE.eq_1 @dB @h7 @v1 @v8 @v10) (And.intro (j7 @O @T @ab @a7 u j l) (j4 o g @J @v))) (j2 @H @w) ?_;exact⟨_,_,Wk.refl _,L _ _ _,_,a2,I,rfl,rfl⟩
      ·have E:oH b a= .error 5:=by rw[←hK];simp[yd,a3,hN,Br,KZ,h7]
       refine gO aa (And.intro (j7 @z @sE.eq_1 @dB @h7 @v1 @v8 @v10) (j8 @O @T @ab @a7 j l g @J)) (j2 @H @am) ?_;exact⟨_,F true 0 0 0 _ _,5,E,rfl,a2,rfl⟩
    have a7:((c.toNat:Int)=19)=False:=cl.trans (eq_false a3);have E:oH b a= .error 2:=by rw[←hK];simp[yd,c1,c8,b3,b2,bf,bs,a3]
    refine gO aa (j2 (j7 @z @sE.eq_1 @dB @v1 @v8 @v10 @O) (j3 @T @ab @a7)) tI ?_;exact⟨_,F true 0 0 0 _ _,2,E,rfl,q,rfl⟩
def aC (t:Ty):cF t= .agg [zI t.kind,zI t.index,zI t.bT,.sc (.bool t.ref)]:=rfl
def QD {b:zY}{a:Nat}{t:Ty}{d:Nat}(h:oH b a= .ok (t,d)):d≤b.length:=by have:=Lp h;have:=this.2.1.len;omega
def vI {ok:Ty→Bool}{b:zY}{a:Nat}{t:Ty}{d:Nat}(h:kP ok b a= .ok (t,d)):d≤b.length:=by have:=ET h;have:=this.2.2.1.len;omega
def As (H:Ty→Bool) (fv:AV) (ab:∀(σ:AS) (t:Ty),mM prog σ fv [cF t] (.sc (.bool (H t)))) (id:Nat) (b:zY) (a:Nat) (nl:Bool) (σ:AS) (h:σ id=some (bA b a nl)) (ha:a≤b.length) (hnl:nl=true→b= []) (hb:b.length≤100000):
 ad prog 212 [jy id,fv] σ (RD (kP H b a) cF b nl id σ) (TD (kP H b a) b nl id σ):=by
 have ht:=fun σ h=>II id b a nl σ h ha hnl hb;refine ad.ob func212 ?_;simp only[jy]at ht⊢;refine gO aa tI tI ?_;intro V G;refine gO aa tI tI ?_;intro T g F;have v:=aK g;have i:¬id=V:=nq h G;have E:=aK i;have d:¬id=T:=nq h F;have n:=aK d;have ac:∀(x1 x2 y:bP),AS.le (σ.set id y) (((σ.set V x1).set T x2).set id y):=fun x1 x2 y=>aj (AS.aj (AS.aj (lR _) G) F);cases hT:oH b a with
 |error e=>
  have hX:kP H b a= .error e:=by unfold kP;rw[hT]
  have X:=fun σ h=>RD.bad (ht σ h) hT;refine gO aa (j4 g i @h d) @X ?_;refine cz ?_;intro x;exact⟨_,ac _ _ _,e,hX,rfl,x,rfl⟩
 |ok y=>
  obtain⟨t,a1⟩:=y;have X:=fun σ h=>RD.ok (ht σ h) hT;simp only[aC]at X ab;refine gO aa (j4 g i @h d) @X ?_;intro id3 q j o O;have w:=aK q;have l:=aK j;have u:=aK o;have hf:=fun σ=>ab σ t;cases ho:H t with
  |true=>
   have hX:kP H b a= .ok (t,a1):=by unfold kP;rw[hT];simp[ho]
   rw[ho]at hf;have I:=fun σ=>cD 10 σ;repeat (first
    |refine g1 ?_
    |((first|refine g2 ?_ |((with_reducible apply ag.id);first|apply (mM.use (hf _))|apply ag.ay (I _)));simp-implicitDefEqProofs [l,j,n,d])
    |(refine g3 ?_;try simp-implicitDefEqProofs [l,n]))
   refine⟨_,_,Wk.refl _,?_,t,a1,hX,rfl,rfl⟩;have Y:=(j2 (j7 G F O w q l j) (j2 (j7 u o g v E i @h) (j2 n d)));intro Q y_;refine gK Y Q id fun P=>gK Y Q V fun L=>gK Y Q T fun K=>gK Y Q id3 fun J=> ?_;intro M;simp[AS.set,P,L,K,J]at M⊢;try exact M
  |false=>
   have hX:kP H b a= .error 10:=by unfold kP;rw[hT];simp[ho]
   rw[ho]at hf;have I:=fun σ=>cy 10 σ;repeat (first
    |refine g1 ?_
    |((first|refine g2 ?_ |((with_reducible apply ag.id);first|apply (mM.use (hf _))|apply (Yj (I _))));simp-implicitDefEqProofs)
    |(refine g3 ?_;try simp-implicitDefEqProofs [w,q,l,j,u,o,g,v,E,i,h,n,d]))
   refine⟨_,?_,10,hX,rfl,a1,rfl⟩;have Y:=(j2 (j7 G F O w q l j) (j2 (j7 u o g v E i @h) (j2 n d)));intro Q y_;refine gK Y Q id fun P=>gK Y Q V fun L=>gK Y Q T fun K=>gK Y Q id3 fun J=> ?_;intro M;simp[AS.set,P,L,K,J]at M⊢;try exact M
def Ae (d:List Ty):Except Int (List Ty×Nat)→Except Int (List Ty×Nat)
 |.error e=> .error e
 |.ok (l,a)=> .ok (d++l,a)
def yT (b:zY) (d:List Ty) (k a:Nat):Ae d (eList b (k+1) a)=match kP aZ b a with|.error e=> .error e|.ok (t,g)=>Ae (d++ [t]) (eList b k g):=by
 simp only[eList];cases kP aZ b a with
 |error e=>rfl
 |ok y=>
  obtain⟨t,g⟩:=y;simp only;cases eList b k g with
  |error e=>rfl
  |ok z=>obtain⟨l,i⟩:=z;simp[Ae]
def qo (l:List Ty):AV:= .ao 49 (l.map cF) .aI (decide (l= []))
def xx {b:zY}{k a:Nat}{l:List Ty}{d:Nat}(ha:a≤b.length) (h:eList b k a= .ok (l,d)):d≤b.length:=by have:=A7 k a l d ha h;have:=this.2.2.1.len;omega
def F9 (n:Nat) (hn:n≤100) (id:Nat) (b:zY) (a:Nat) (nl:Bool) (σ:AS) (h:σ id=some (bA b a nl)) (ha:a≤b.length) (hnl:nl=true→b= []) (hb:b.length≤100000):
 ad prog 209 [jy id,zI n] σ (RD (eList b n a) qo b nl id σ) (TD (eList b n a) b nl id σ):=by
 have hm:=fun x σ h Y=>As aZ (.sc (.func (.func 183) #[] #[])) (fun σ t=>mM.func (qA t σ)) id b x nl σ h Y hnl hb;refine ad.ob func209 ?_;simp only[jy]at hm⊢;refine gO aa tI tI ?_;intro F o;have g:¬id=F:=nq h o;refine gO aa tI tI ?_;refine aq.fy 5 49 [] true (by simp) (.inr ⟨by simp,rfl,rfl⟩) ?_;simp-implicitDefEqProofs;intro K j E;have l:¬id=K:=nq h E;refine aq.aQ (α:=(Nat)×(List Ty)×(Nat)) ((0,[],a)) (fun⟨i,d,q⟩=>n-i) (fun⟨i,d,q⟩=>i≤n∧d.length=i∧Ae d (eList b (n-i) q)=eList b n a∧q≤b.length) [(2,?_),(4,?_),(6,?_)] (fun⟨i,d,q⟩=> [(7,zI i),(5,.ao 49 (d.map cF) (.tok K) (decide (d= [])))]) (fun⟨i,d,q⟩=>((σ.set F (.cells 275 [.ptr id 0])).set K (.tok d.length)).set id (bA b q nl)) ?_ ?_ ?_ ?_;rotate_left 3
 ·exact gF tI
 ·(try dsimp only);(simp;rw[fF (by simp[g,l,h])];exact lR _)
 ·exact⟨by omega,rfl,by simp;cases eList b n a<;>simp[Ae],ha⟩
 intro V I;obtain⟨i,d,q⟩:=V;try dsimp only at I⊢
 obtain⟨hi,hd,G,T⟩:=I;simp only[eZ];have w:∀(Q P y:bP),AS.le (σ.set id y) (((σ.set F Q).set K P).set id y):=fun Q P y=>aj (AS.aj (AS.aj (lR _) o) E);by_cases v:i<n
 ·have H:zW ((i:Int)+1)=((i+1:Nat):Int):=bQ (by omega);obtain⟨k,hk⟩:∃k,n-i=k+1:=⟨n-i-1,by omega⟩;rw[hk,yT]at G;cases J:kP aZ b q with
  |error e=>
   rw[J]at G;have u:=fun σ h=>RD.bad (hm q σ h T) J;refine gO aa (j4 v @aH g j) @u ?_;refine cz ?_;try simp-implicitDefEqProofs
   intro x;exact⟨_,w _ _ _,e,G.symm,rfl,x,rfl⟩
  |ok y=>
   obtain⟨t,X⟩:=y;rw[J]at G;have u:=fun σ h=>RD.ok (hm q σ h T) J;have L:=vI J;simp only[aC]at u;have ac:d.length≤100:=by omega
   refine gO aa (j6 v @aH g l j @H) @u ?_;refine jC.mk ((i+1,d++ [t],X)) gM (gF @aC) (by(try dsimp only);(simp;done)) ?_;try dsimp only
   exact⟨v,by simp[hd],by rw[←G,show n-(i+1)=k by omega],L⟩
 ·have M:n-i=0:=by omega
  rw[M]at G;have O:eList b n a= .ok (d,q):=by rw[←G];simp[eList,Ae]
  refine gO aa (j2 v @aH) tI ?_;exact⟨_,_,qh _ _ _ _ |>.2 trivial,w _ _ _,d,q,O,rfl,rfl⟩
def xy {b:zY}{a:Nat}{e:Int}(h:eB b a= .error e):e≠0:=by unfold eB at h;split at h<;>cases h;omega
def vG {b:zY}{a:Nat}{e:Int}(h:xw b a= .error e):e≠0:=by unfold xw at h;split at h<;>cases h;assumption
def Gq {b:zY}{a:Nat}{e:Int}(h:C1 b a= .error e):e≠0:=by
 unfold C1 at h;split at h
 ·cases h;exact vG (by assumption)
 ·split at h<;>cases h;omega
def NI {b:zY}{a:Nat}{e:Int}(h:KZ b a= .error e):e≠0:=by
 unfold KZ at h;split at h
 ·cases h;exact vG (by assumption)
 ·split at h<;>cases h;omega
def Ar {k:Int}{g:Bool}{d:Nat}{x:Except Int (Int×Nat)}{e:Int}(h:Br k g d x= .error e):x= .error e:=by
 unfold Br at h;split at h
 ·cases h;rfl
 ·cases h
def Gp {b:zY}{g:Bool}{d:Nat}{c:UInt8}{a:Nat}{e:Int}(h:yd b g d c a= .error e):e≠0:=by
 unfold yd at h;split at h
 ·split at h<;>cases h;omega
 split at h
 ·cases h
 split at h
 ·cases h
 split at h
 ·cases h
 split at h
 ·exact Gq (Ar h)
 split at h
 ·exact Gq (Ar h)
 split at h
 ·exact NI (Ar h)
 ·cases h;omega
def Gr {b:zY}{g:Bool}{e:Int} :∀(f d:Nat) (c:UInt8) (a:Nat),Bs b g f d c a= .error e→e≠0:=by
 intro f;induction f with
 |zero=>
  intro d c a h;simp only[Bs]at h;split at h
  ·cases h;omega
  ·exact Gp h
 |succ f i=>
  intro d c a h;simp only[Bs]at h;split at h
  ·split at h
   ·cases h;exact xy (by assumption)
   ·exact i _ _ _ h
  ·exact Gp h
def Gn {b:zY}{a:Nat}{e:Int}(h:oH b a= .error e):e≠0:=by
 unfold oH at h;split at h
 ·cases h;exact xy (by assumption)
 ·split at h
  ·split at h
   ·cases h;exact xy (by assumption)
   ·exact Gr _ _ _ _ h
  ·exact Gr _ _ _ _ h
def CZ {ok:Ty→Bool}{b:zY}{a:Nat}{e:Int}(h:kP ok b a= .error e):e≠0:=by
 unfold kP at h;split at h
 ·cases h;exact Gn (by assumption)
 ·split at h<;>cases h;omega
def zk {b:zY}{e:Int} :∀(k a:Nat),eList b k a= .error e→e≠0:=by
 intro k;induction k with
 |zero=>intro a h;cases h
 |succ k d=>
  intro a h;simp only[eList]at h;split at h
  ·cases h;exact CZ (by assumption)
  ·split at h
   ·cases h;exact d _ (by assumption)
   ·cases h
def AP {α:Type}{b:zY}{x:Except Int (α×Nat)}{e:Int}(d:∀e,x= .error e→e≠0) (h:oI b x= .error e):e≠0:=by
 unfold oI at h;split at h
 ·cases h;exact d _ rfl
 ·split at h<;>cases h;omega
def xi {b:zY}{e:Int}(h:eT b= .error e):e≠0:=AP (fun _ =>Gn) h
def KU {b:zY}{e:Int}(h:pU b= .error e):e≠0:=by
 unfold pU at h;split at h
 ·cases h;exact xy (by assumption)
 split at h
 ·split at h
  ·cases h;exact vG (by assumption)
  split at h
  ·split at h
   ·cases h;exact CZ (by assumption)
   split at h
   ·cases h;exact zk _ _ (by assumption)
   ·cases h
  ·cases h;omega
 ·cases h;omega
def I8 {b:zY}{e:Int}(h:dy b= .error e):e≠0:=AP (fun _ =>KU) h
def KY {b:zY}{e:Int}(h:rH b= .error e):e≠0:=by
 unfold rH at h;split at h
 ·cases h;exact xy (by assumption)
 split at h
 ·split at h
  ·cases h;exact vG (by assumption)
  split at h
  ·exact zk _ _ h
  ·cases h;omega
 ·cases h;omega
def Kg {b:zY}{e:Int}(h:fR b= .error e):e≠0:=AP (fun _ =>KY) h
def fP:Except Int Ty→Ty
 |.ok t=>t
 |.error _ =>⟨0,0,0,false⟩
def b9 {α:Type} :Except Int α→Int
 |.ok _ =>0
 |.error e=>e
def pj (e:Int):bP:= .cells 31 [zI e]
def HG (j i:Nat) (σ:AS) (K:AS→Prop) (g:K σ):bX prog 201 [.ptr j 0,.ptr i 0] σ none K:=by
 refine bX.of func201 rfl rfl (by simp[ntmps201]) (by simp[ntmps201]) ?_;refine bq.sp rfl (ia.mH (by simp[ntmps201]) underlying272 trivial (by kernel_rfl) rfl ?_);refine bq.rest ?_;have d:ax prog 272=zI 0:=by kernel_rfl
 simp-implicitDefEqProofs [d,ntmps201];refine gO aa tI tI ?_;exact g
def zd (g d:Nat) (e:Int) (q o n l z:AV) (σ:AS) (K:AS→Prop) (w:σ g=some (.cells 49 [q,o,n,l])) (v:σ d=some (.cells 31 [z])) (j:¬g=d)
 (u:K ((σ.set g (.cells 49 [zI 0,zI 0,zI 0,zB false])).set d (pj e))):bX prog 201 [.ptr g 0,.ptr d 0] σ (some (sQ e)) K:=by
 have i:=aK j;refine bX.of func201 rfl rfl (by simp[ntmps201]) (by simp[ntmps201]) ?_;refine bq.sp rfl (ia.oL (by simp[ntmps201]) underlying272 trivial rfl ?_);refine bq.rest ?_;simp-implicitDefEqProofs [ntmps201,sQ,recV];refine gO aa (j3 @w @v @i) tI ?_;exact u
def KH (b:zY) (o:cC) (nl:Bool) (hnl:nl=true→b= []) (hl:b.length≤100000) (σ:AS):
 ad prog 162 [.ao 5 (b.map u8) o nl] σ (ah (.bI [cF (fP (eT b)),zI (b9 (eT b))]) σ) No:=by
 refine ad.iZ func162 rfl rfl (by simp[ntmps162]) (fun T=> ?_);apply kS.seq;have I:f162.ntmps=14:=rfl;simp-implicitDefEqProofs only[I];refine gO aa tI tI ?_;intro G M;refine gO aa tI tI ?_;intro id3 g L;have d:=aK g;apply kS.defer (by simp) (by decide+kernel);intro D;simp-implicitDefEqProofs only[I];refine gO aa tI tI ?_;refine ag.of (oB b o nl hnl (by omega) _) ?_ (fun _ _ h=>h.elim);rintro r Q ⟨id,J,rfl,rfl⟩;simp at J;obtain⟨u,v,P⟩:=J;have w:=aK u;have E:=aK v;simp-implicitDefEqProofs;refine gO aa tI tI ?_;intro id5 i j l K;have n:=aK j;have q:=aK l;have ht:=fun σ h=>II id b 0 nl σ h (by omega) hnl hl;simp only[jy]at ht;unfold eT;cases O:oH b 0 with
 |error e=>have F:=fun σ h=>RD.bad (ht σ h) O;refine gO aa i @F ?_;refine cz ?_;intro x;refine zd G id3 e (zI 0) (zI 0) (zI 0) (zB false) (zI 0) _ _ (by simp[q,E,d]) (by simp[n,w]) d ?_;simp-implicitDefEqProofs [i,d,g,pj,oI,fP,b9,aC];repeat (first|exact lR _ |refine AS.aj ?_ (by assumption))
 |ok y=>
  obtain⟨t,a⟩:=y;have ha:=QD O;have F:=fun σ h=>RD.ok (ht σ h) O;simp only[aC]at F;by_cases H:a<b.length
  ·have he:=fun σ h=>AR id b a nl σ h hl H;simp only[jy]at he;refine gO aa (j6 g u v i j l) (j2 @F @he) ?_;refine cz ?_;intro x;refine zd G id3 2 (zI t.kind) (zI t.index) (zI t.bT) (.sc (.bool t.ref)) (zI 0) _ _ (by simp[q,E,d]) (by simp[n,w]) d ?_;simp-implicitDefEqProofs [i,d,g,pj,oI,H,fP,b9,aC];repeat (first|exact lR _ |refine AS.aj ?_ (by assumption))
  ·have he:=fun σ h=>AN id b a nl σ h ha hl (by omega);simp only[jy]at he;refine gO aa (j6 g u v i j l) (j2 @F @he) ?_;refine HG G id3 _ _ ?_;simp-implicitDefEqProofs [E,w,d,q,n,oI,H,fP,b9,aC];repeat (first|exact lR _ |refine AS.aj ?_ (by assumption))
def CH (b:zY) (o:cC) (nl:Bool) (hnl:nl=true→b= []) (hl:b.length≤100000) (σ:AS):
 ad prog 169 [.ao 5 (b.map u8) o nl] σ (ah (.bI [cF (fP (nh b)),zI (b9 (nh b))]) σ) No:=by
 refine ad.ob func169 ?_;cases b with
 |nil=>refine gO aa tI tI ?_;intro id j;refine gO aa tI tI ?_;simp[nh,fP,b9,aC];exact an j (lR _)
 |cons c r=>
  have P:=lC (c:=c) (n:=6) (by omega);have u:((r.length:Int)+1=0)=False:=eq_false (by omega);by_cases I:c=6
  ·have z:((c.toNat:Int)=6)=True:=P.trans (eq_true I);have H:=fun o nl T σ=>KH r o nl T (by simp at hl;omega) σ;have O:nh (c::r)=match eT r with|.error e=> .error e|.ok t=>if bO t=true then .ok t else .error 10:=by subst I;simp only[nh,if_true];cases eT r<;>rfl
   rw[O];have L:= @xi r;have F:List.take r.length (List.map u8 r)=List.map u8 r:=take_of_length_le (by simp);generalize eT r=g at*;have J:nl=false:=by cases nl with|false=>rfl|true=>have:=hnl rfl;cases this
   subst J;cases g with
   |error e=>have M:¬e=0:=L rfl;simp only[fP,b9,aC]at H⊢;refine gO aa (j2 @z @u) tI ?_;intro id j;refine gO aa (j3 @z @u @F) @H ?_;intro y d l;have i:=aK d;refine gO aa (j2 @M d) tI ?_;have G:=(j4 j l d i);intro E Q;refine gK G E id fun w=>gK G E y fun q=> ?_;intro v;simp[AS.set,w,q]at v⊢;try exact v
   |ok t=>
    have K:=fun σ=>tR t σ;simp only[fP,b9,aC]at H K⊢;cases hf:bO t;all_goals
     rw[hf]at K;refine gO aa (j2 @z @u) tI ?_;intro id j;refine gO aa (j3 @z @u @F) @H ?_;intro y d l;have i:=aK d;refine gO aa d @K ?_;have G:=(j4 j l d i);intro E Q;refine gK G E id fun w=>gK G E y fun q=> ?_;intro v;simp[AS.set,w,q]at v⊢;try exact v
  ·have z:((c.toNat:Int)=6)=False:=P.trans (eq_false I);have O:nh (c::r)= .error 2:=by simp only[nh,I,if_false]
   rw[O];refine gO aa (j2 @z @u) tI ?_;intro id j;refine gO aa (j2 @z @u) tI ?_;simp[fP,b9,aC];exact an j (lR _)
def oQ {P:Program}{a b c d e f u q o n j g:AV}(h1:AV.Wk P a u) (I:AV.Wk P b q) (H:AV.Wk P c o) (F:AV.Wk P d n) (E:AV.Wk P e j) (y:AV.Wk P f g):AV.Wk P (.agg [a,b,c,d,e,f]) (.agg [u,q,o,n,j,g]):=by
 intro G v h;cases h with
 |agg vs l h=>
  refine .agg vs l fun i w=> ?_
  match i,w with
  |0,_ =>exact h1 G _ (h 0 (by simp))
  |1,_ =>exact I G _ (h 1 (by simp))
  |2,_ =>exact H G _ (h 2 (by simp))
  |3,_ =>exact F G _ (h 3 (by simp))
  |4,_ =>exact E G _ (h 4 (by simp))
  |5,_ =>exact y G _ (h 5 (by simp))
def LM (s:Sg):AV:= .agg [.sc (.bool s.this),qo s.ps,zI s.ret.kind,zI s.ret.index,zI s.ret.bT,.sc (.bool s.ret.ref)]
def iX:Except Int Sg→Sg
 |.ok s=>s
 |.error _ =>⟨false,[],⟨0,0,0,false⟩⟩
def mX:Except Int (List Ty)→List Ty
 |.ok l=>l
 |.error _ => []
def gA:AV.Wk prog .ai (qo []):=by simp[qo]
def sq (j i:Nat) (σ:AS) (K:AS→Prop) (g:K σ):bX prog 211 [.ptr j 0,.ptr i 0] σ none K:=by
 refine bX.of func211 rfl rfl (by simp[ntmps211]) (by simp[ntmps211]) ?_;refine bq.sp rfl (ia.mH (by simp[ntmps211]) underlying272 trivial (by kernel_rfl) rfl ?_);refine bq.rest ?_;have d:ax prog 272=zI 0:=by kernel_rfl
 simp-implicitDefEqProofs [d,ntmps211];refine gO aa tI tI ?_;exact g
def fB (g d:Nat) (e:Int) (v u q o n l z:AV) (σ:AS) (K:AS→Prop) (E:σ g=some (.cells 149 [v,u,q,o,n,l])) (y:σ d=some (.cells 31 [z])) (j:¬g=d)
 (w:K ((σ.set g (.cells 149 [zB false,.ai,zI 0,zI 0,zI 0,zB false])).set d (pj e))):bX prog 211 [.ptr g 0,.ptr d 0] σ (some (sQ e)) K:=by
 have i:=aK j;refine bX.of func211 rfl rfl (by simp[ntmps211]) (by simp[ntmps211]) ?_;refine bq.sp rfl (ia.oL (by simp[ntmps211]) underlying272 trivial rfl ?_);refine bq.rest ?_;simp-implicitDefEqProofs [ntmps211,sQ,recV];refine gO aa (j3 @E @y @i) tI ?_;exact w
def AI (j i:Nat) (σ:AS) (K:AS→Prop) (g:K σ):bX prog 205 [.ptr j 0,.ptr i 0] σ none K:=by
 refine bX.of func205 rfl rfl (by simp[ntmps205]) (by simp[ntmps205]) ?_;refine bq.sp rfl (ia.mH (by simp[ntmps205]) underlying272 trivial (by kernel_rfl) rfl ?_);refine bq.rest ?_;have d:ax prog 272=zI 0:=by kernel_rfl
 simp-implicitDefEqProofs [d,ntmps205];refine gO aa tI tI ?_;exact g
def gw (g d:Nat) (e:Int) (l z:AV) (σ:AS) (K:AS→Prop) (q:σ g=some (.cells 47 [l])) (o:σ d=some (.cells 31 [z])) (j:¬g=d)
 (n:K ((σ.set g (.cells 47 [.ai])).set d (pj e))):bX prog 205 [.ptr g 0,.ptr d 0] σ (some (sQ e)) K:=by
 have i:=aK j;refine bX.of func205 rfl rfl (by simp[ntmps205]) (by simp[ntmps205]) ?_;refine bq.sp rfl (ia.oL (by simp[ntmps205]) underlying272 trivial rfl ?_);refine bq.rest ?_;simp-implicitDefEqProofs [ntmps205,sQ,recV];refine gO aa (j3 @q @o @i) tI ?_;exact n
def AJ (b:zY) (o:cC) (nl:Bool) (hnl:nl=true→b= []) (hl:b.length≤100000) (σ:AS):
 ad prog 165 [.ao 5 (b.map u8) o nl] σ (ah (.bI [qo (mX (fR b)),zI (b9 (fR b))]) σ) No:=by
 refine ad.iZ func165 rfl rfl (by simp[ntmps165]) (fun G1=> ?_);apply kS.seq;have af:f165.ntmps=25:=rfl;simp-implicitDefEqProofs only[af];refine gO aa tI tI ?_;intro J a8;refine gO aa tI tI ?_;intro id3 i a7;have d:=aK i;apply kS.defer (by simp) (by decide+kernel);intro D;simp-implicitDefEqProofs only[af];refine gO aa tI tI ?_;refine ag.of (oB b o nl hnl (by omega) _) ?_ (fun _ _ h=>h.elim);rintro r σ1 ⟨id,al,rfl,rfl⟩;simp at al;obtain⟨j,q,be⟩:=al;have w:=aK j;have E:=aK q;simp-implicitDefEqProofs;refine gO aa tI tI ?_;intro id5 g F G a6;have u:=aK F;have v:=aK G;have T:=fun e σ=>cy e σ;have H:=fun e σ=>cD e σ;have ho:=fun σ h=>Ak id b 0 nl σ h (by omega) hl;have hp:=fun x hx σ h=>lM id b x nl σ h hx hnl hl;have Y:=fun n hn x hx σ h=>F9 n hn id b x nl σ h hx hnl hl;simp only[jy]at ho hp Y;cases P:eB b 0 with
 |error e=>
  have M:fR b= .error e:=by unfold fR rH;rw[P];rfl
  have I:=fun σ h=>RD.bad (ho σ h) P;refine gO aa g @I ?_;refine cz ?_;intro x;refine gw J id3 e (.ai) (zI 0) _ _ (by simp[E,v,d]) (by simp[w,u]) d ?_;simp-implicitDefEqProofs [g,d,i,q,j,pj,M,mX,b9];refine⟨cq gA (Wk.refl _),?_⟩;repeat (first|exact lR _ |refine AS.aj ?_ (by assumption))
 |ok y=>
  obtain⟨c,a1⟩:=y;have I:=fun σ h=>RD.ok (ho σ h) P;have am:=zm P;simp only[sE]at I;have z7:=lC (c:=c) (n:=7) (by omega);by_cases h7:c=7;rotate_left
  ·have z:((c.toNat:Int)=7)=False:=z7.trans (eq_false h7);have M:fR b= .error 2:=by unfold fR rH;rw[P];simp only[h7,if_false];rfl
   refine gO aa (j2 @z g) (j2 @I @T) ?_;refine gw J id3 2 (.ai) (zI 0) _ _ (by simp[E,v,d]) (by simp[w,u]) d ?_;simp-implicitDefEqProofs [d,i,q,j,pj,M,mX,b9];refine⟨cq gA (Wk.refl _),?_⟩;repeat (first|exact lR _ |refine AS.aj ?_ (by assumption))
  have z:((c.toNat:Int)=7)=True:=z7.trans (eq_true h7);cases V:xw b a1 with
  |error e=>
   have M:fR b= .error e:=by unfold fR rH;rw[P];simp only[h7,if_true];rw[V];rfl
   have K:=fun σ h=>RD.bad (hp a1 am σ h) V;refine gO aa (j2 @z g) (j3 @I @H @K) ?_;refine cz ?_;intro x;refine gw J id3 e (.ai) (zI 0) _ _ (by simp[E,v,d]) (by simp[w,u]) d ?_;simp-implicitDefEqProofs [g,d,i,q,j,pj,M,mX,b9];refine⟨cq gA (Wk.refl _),?_⟩;repeat (first|exact lR _ |refine AS.aj ?_ (by assumption))
  |ok y=>
   obtain⟨n,a2⟩:=y;have K:=fun σ h=>RD.ok (hp a1 am σ h) V;have ab:=EH V;have bf:=(oK V).1;simp only[Kw]at K;by_cases L:n≤12;rotate_left
   ·have M:fR b= .error 4:=by unfold fR rH;rw[P];simp only[h7,if_true];rw[V];simp only[L,if_false];rfl
    refine gO aa (j3 @z @L g) (j4 @I @H @K @T) ?_;refine gw J id3 4 (.ai) (zI 0) _ _ (by simp[E,v,d]) (by simp[w,u]) d ?_;simp-implicitDefEqProofs [d,i,q,j,pj,M,mX,b9];refine⟨cq gA (Wk.refl _),?_⟩;repeat (first|exact lR _ |refine AS.aj ?_ (by assumption))
   obtain⟨m,rfl⟩:∃m:Nat,n=m:=⟨n.toNat,by omega⟩;cases hL:eList b m a2 with
   |error e=>
    have M:fR b= .error e:=by unfold fR rH;rw[P];simp only[h7,if_true];rw[V];simp only[L,if_true,Int.toNat_natCast];rw[hL];rfl
    have O:=fun σ h=>RD.bad (Y m (by omega) a2 ab σ h) hL;refine gO aa (j3 @z @L g) (j4 @I @H @K @O) ?_;refine cz ?_;intro x;refine gw J id3 e (.ai) (zI 0) _ _ (by simp[E,v,d]) (by simp[w,u]) d ?_;simp-implicitDefEqProofs [g,d,i,q,j,pj,M,mX,b9];refine⟨cq gA (Wk.refl _),?_⟩;repeat (first|exact lR _ |refine AS.aj ?_ (by assumption))
   |ok y=>
    obtain⟨l,a3⟩:=y;have a5:=xx ab hL;have O:=fun σ h=>RD.ok (Y m (by omega) a2 ab σ h) hL;simp only[qo]at O;have Q:rH b= .ok (l,a3):=by unfold rH;rw[P];simp only[h7,if_true];rw[V];simp only[L,if_true,Int.toNat_natCast];rw[hL]
    by_cases X:a3<b.length
    ·have M:fR b= .error 2:=by unfold fR;rw[Q];simp[oI,X]
     have he:=fun σ h=>AR id b a3 nl σ h hl X;simp only[jy]at he;refine gO aa (j8 @z @L i j q g F G) (j5 @I @H @K @O @he) ?_;refine cz ?_;intro x;refine gw J id3 2 (.ao 49 (l.map cF) .aI (decide (l= []))) (zI 0) _ _ (by simp[E,v,d]) (by simp[w,u]) d ?_;simp-implicitDefEqProofs [g,d,i,q,j,pj,M,mX,b9];refine⟨cq gA (Wk.refl _),?_⟩;repeat (first|exact lR _ |refine AS.aj ?_ (by assumption))
    ·have M:fR b= .ok l:=by unfold fR;rw[Q];simp[oI,X]
     have he:=fun σ h=>AN id b a3 nl σ h a5 hl (by omega);simp only[jy]at he;refine gO aa (j8 @z @L i j q g F G) (j5 @I @H @K @O @he) ?_;refine AI J id3 _ _ ?_;simp-implicitDefEqProofs [E,w,v,u,d,M,mX,b9,qo];repeat (first|exact lR _ |refine AS.aj ?_ (by assumption))
def HF (b:zY) (o:cC) (nl:Bool) (hnl:nl=true→b= []) (hl:b.length≤100000) (σ:AS):
 ad prog 170 [.ao 5 (b.map u8) o nl] σ (ah (.bI [LM (iX (dy b)),zI (b9 (dy b))]) σ) No:=by
 refine ad.iZ func170 rfl rfl (by simp[ntmps170]) (fun G1=> ?_);apply kS.seq;have a8:f170.ntmps=38:=rfl;simp-implicitDefEqProofs only[a8];refine gO aa tI tI ?_;intro L ca;refine gO aa tI tI ?_;intro id3 g b6;have d:=aK g;apply kS.defer (by simp) (by decide+kernel);intro D;simp-implicitDefEqProofs only[a8];refine gO aa tI tI ?_;refine ag.of (oB b o nl hnl (by omega) _) ?_ (fun _ _ h=>h.elim);rintro r σ1 ⟨id,a9,rfl,rfl⟩;simp at a9;obtain⟨u,j,ce⟩:=a9;have E:=aK u;have F:=aK j;simp-implicitDefEqProofs;refine gO aa tI tI ?_;intro id5 i H G b5;have v:=aK H;have w:=aK G;have al:=fun e σ=>cy e σ;have I:=fun e σ=>cD e σ;have ho:=fun σ h=>Ak id b 0 nl σ h (by omega) hl;have hp:=fun x hx σ h=>lM id b x nl σ h hx hnl hl;have hm:=fun x hx σ h=>As cx (.sc (.func (.func 191) #[] #[])) (fun σ t=>mM.func (oF t σ)) id b x nl σ h hx hnl hl;have ar:=fun n hn x hx σ h=>F9 n hn id b x nl σ h hx hnl hl;simp only[jy]at ho hp ar hm;cases V:eB b 0 with
 |error e=>
  have O:dy b= .error e:=by unfold dy pU;rw[V];rfl
  have J:=fun σ h=>RD.bad (ho σ h) V;refine gO aa i @J ?_;refine cz ?_;intro x;refine fB L id3 e (zB false) (.ai) (zI 0) (zI 0) (zI 0) (zB false) (zI 0) _ _ (by simp[F,w,d]) (by simp[E,v]) d ?_;simp-implicitDefEqProofs [i,d,g,j,u,pj,O,iX,b9,LM];refine⟨cq (oQ (Wk.refl _) gA (Wk.refl _) (Wk.refl _) (Wk.refl _) (Wk.refl _)) (Wk.refl _),?_⟩;repeat (first|exact lR _ |refine AS.aj ?_ (by assumption))
 |ok y=>
  obtain⟨c,a1⟩:=y;have J:=fun σ h=>RD.ok (ho σ h) V;have bc:=zm V;simp only[sE]at J;have z0:=lC (c:=c) (n:=0) (by omega);have bs:=lC (c:=c) (n:=32) (by omega);by_cases X:c=0∨c=32;rotate_left
  ·have a5:((c.toNat:Int)=0)=False:=z0.trans (eq_false fun e=>X (.inl e));have y0:(c.toNat=0)=False:=by simp only[eq_iff_iff,iff_false];intro h;rw[h]at a5;simp at a5
   have K:((c.toNat:Int)=32)=False:=bs.trans (eq_false fun e=>X (.inr e));have O:dy b= .error 2:=by unfold dy pU;rw[V];simp only[X,if_false];rfl
   refine gO aa (j3 @y0 @K i) (j2 @J @al) ?_;refine fB L id3 2 (zB false) (.ai) (zI 0) (zI 0) (zI 0) (zB false) (zI 0) _ _ (by simp[F,w,d]) (by simp[E,v]) d ?_;simp-implicitDefEqProofs [d,g,j,u,pj,O,iX,b9,LM];refine⟨cq (oQ (Wk.refl _) gA (Wk.refl _) (Wk.refl _) (Wk.refl _) (Wk.refl _)) (Wk.refl _),?_⟩;repeat (first|exact lR _ |refine AS.aj ?_ (by assumption))
  have b3:∃(p q th:Bool),(c.toNat=0)=(p=true)∧((c.toNat:Int)=32)=(q=true)∧(p||q)=true∧decide (c=32)=th∧th= !p:=by
   rcases X with rfl|rfl
   ·exact⟨true,false,false,by simp,by simp,rfl,by decide,rfl⟩
   ·exact⟨false,true,true,by simp,by simp,rfl,by decide,rfl⟩
  obtain⟨p,q,th,y0,K,P,b0,rfl⟩:=b3;obtain⟨tv,am⟩:∃tv:Bool,tv= !p:=⟨_,rfl⟩;cases Y:xw b a1 with
  |error e=>
   have O:dy b= .error e:=by unfold dy pU;rw[V];simp only[X,if_true];rw[Y];rfl
   have M:=fun σ h=>RD.bad (hp a1 bc σ h) Y;cases p<;>cases q<;>first|(cases P;done)|skip
   all_goals
    refine gO aa (j3 @y0 @K i) (j3 @J @I @M) ?_;refine cz ?_;intro x;refine fB L id3 e (zB false) (.ai) (zI 0) (zI 0) (zI 0) (zB false) (zI 0) _ _ (by simp[F,w,d]) (by simp[E,v]) d ?_;simp-implicitDefEqProofs [i,d,g,j,u,pj,O,iX,b9,LM];refine⟨cq (oQ (Wk.refl _) gA (Wk.refl _) (Wk.refl _) (Wk.refl _) (Wk.refl _)) (Wk.refl _),?_⟩;repeat (first|exact lR _ |refine AS.aj ?_ (by assumption))
  |ok y=>
   obtain⟨n,a2⟩:=y;have M:=fun σ h=>RD.ok (hp a1 bc σ h) Y;have bb:=EH Y;have ci:=(oK Y).1;simp only[Kw]at M;by_cases h6:n≤6;rotate_left
   ·have O:dy b= .error 4:=by unfold dy pU;rw[V];simp only[X,if_true];rw[Y];simp only[h6,if_false];rfl
    cases p<;>cases q<;>first|(cases P;done)|skip
    all_goals
     refine gO aa (j4 @y0 @K @h6 i) (j4 @J @I @M @al) ?_;refine fB L id3 4 (zB false) (.ai) (zI 0) (zI 0) (zI 0) (zB false) (zI 0) _ _ (by simp[F,w,d]) (by simp[E,v]) d ?_;simp-implicitDefEqProofs [d,g,j,u,pj,O,iX,b9,LM];refine⟨cq (oQ (Wk.refl _) gA (Wk.refl _) (Wk.refl _) (Wk.refl _) (Wk.refl _)) (Wk.refl _),?_⟩;repeat (first|exact lR _ |refine AS.aj ?_ (by assumption))
   obtain⟨m,rfl⟩:∃m:Nat,n=m:=⟨n.toNat,by omega⟩;cases hM:kP cx b a2 with
   |error e=>
    have O:dy b= .error e:=by unfold dy pU;rw[V];simp only[X,if_true];rw[Y];simp only[h6,if_true];rw[hM];rfl
    have Q:=fun σ h=>RD.bad (hm a2 bb σ h) hM;cases p<;>cases q<;>first|(cases P;done)|skip
    all_goals
     refine gO aa (j7 @y0 @K @h6 g j i G) (j4 @J @I @M @Q) ?_;refine cz ?_;intro x;refine fB L id3 e (zB tv) .ai (zI 0) (zI 0) (zI 0) (zB false) (zI 0) _ _ (by simp[am,F,w,d]) (by simp[E,v]) d ?_;simp-implicitDefEqProofs [i,d,g,j,u,pj,O,iX,b9,LM];refine⟨cq (oQ (Wk.refl _) gA (Wk.refl _) (Wk.refl _) (Wk.refl _) (Wk.refl _)) (Wk.refl _),?_⟩;repeat (first|exact lR _ |refine AS.aj ?_ (by assumption))
   |ok y=>
    obtain⟨t,a3⟩:=y;have av:=vI hM;have Q:=fun σ h=>RD.ok (hm a2 bb σ h) hM;simp only[aC]at Q;cases hL:eList b m a3 with
    |error e=>
     have O:dy b= .error e:=by unfold dy pU;rw[V];simp only[X,if_true];rw[Y];simp only[h6,if_true];rw[hM];simp only[Int.toNat_natCast];rw[hL];rfl
     have T:=fun σ h=>RD.bad (ar m (by omega) a3 av σ h) hL;cases p<;>cases q<;>first|(cases P;done)|skip
     all_goals
      refine gO aa (j7 @y0 @K @h6 g j i G) (j5 @J @I @M @Q @T) ?_;refine cz ?_;intro x;refine fB L id3 e (zB tv) .ai (zI t.kind) (zI t.index) (zI t.bT) (.sc (.bool t.ref)) (zI 0) _ _ (by simp[am,F,w,d]) (by simp[E,v]) d ?_;simp-implicitDefEqProofs [i,d,g,j,u,pj,O,iX,b9,LM];refine⟨cq (oQ (Wk.refl _) gA (Wk.refl _) (Wk.refl _) (Wk.refl _) (Wk.refl _)) (Wk.refl _),?_⟩;repeat (first|exact lR _ |refine AS.aj ?_ (by assumption))
    |ok y=>
     obtain⟨l,a4⟩:=y;have b4:=xx av hL;have T:=fun σ h=>RD.ok (ar m (by omega) a3 av σ h) hL;simp only[qo]at T;have af:pU b= .ok (⟨!p,l,t⟩,a4):=by unfold pU;rw[V];simp only[X,if_true];rw[Y];simp only[h6,if_true];rw[hM];simp only[Int.toNat_natCast];rw[hL];simp only[b0]
     by_cases ap:a4<b.length
     ·have O:dy b= .error 2:=by unfold dy;rw[af];simp[oI,ap]
      have he:=fun σ h=>AR id b a4 nl σ h hl ap;simp only[jy]at he;cases p<;>cases q<;>first|(cases P;done)|skip
      all_goals
       refine gO aa (And.intro (j7 @y0 @K @h6 g u j i) (j2 H G)) (j6 @J @I @M @Q @T @he) ?_;refine cz ?_;intro x;refine fB L id3 2 (zB tv) (.ao 49 (l.map cF) .aI (decide (l= []))) (zI t.kind) (zI t.index) (zI t.bT) (.sc (.bool t.ref)) (zI 0) _ _ (by simp[am,F,w,d]) (by simp[E,v]) d ?_;simp-implicitDefEqProofs [i,d,g,j,u,pj,O,iX,b9,LM];refine⟨cq (oQ (Wk.refl _) gA (Wk.refl _) (Wk.refl _) (Wk.refl _) (Wk.refl _)) (Wk.refl _),?_⟩;repeat (first|exact lR _ |refine AS.aj ?_ (by assumption))
     ·have O:dy b= .ok ⟨!p,l,t⟩:=by unfold dy;rw[af];simp[oI,ap]
      have he:=fun σ h=>AN id b a4 nl σ h b4 hl (by omega);simp only[jy]at he;cases p<;>cases q<;>first|(cases P;done)|skip
      all_goals
       refine gO aa (And.intro (j7 @y0 @K @h6 g u j i) (j2 H G)) (j6 @J @I @M @Q @T @he) ?_;refine sq L id3 _ _ ?_;simp-implicitDefEqProofs [F,E,w,v,d,O,iX,b9,LM,qo];repeat (first|exact lR _ |refine AS.aj ?_ (by assumption))
def La {P:Program}{f:FuncId}{e:TypeId}{es:List AV}{nil:Bool}{v:List AV}{σ:AS}{R E:AV→AS→Prop}(hb:lk P f=true)
 (h:∀g,σ g=none→ad P f (.ao e es (.tok g) nil::v) (σ.set g (.tok es.length)) R E):ad P f (.ao e es .full nil::v) σ R E:=by
 refine⟨hb,fun G w vals u l=> ?_⟩;have h0:=l.2 0 (by simp);simp only[getD_cons_zero]at h0;obtain⟨r,j,H,F⟩:=h0.fy u;refine((h G.top u.fresh).run _ w vals H ⟨by simpa using l.1,fun i n=> ?_⟩).mono fun x w' he=> ?_
 ·cases i with
  |zero=>simpa using F
  |succ k=>simpa using(l.2 (k+1) (by simpa using n)).mono j
 ·unfold kE at he⊢;split at he
  ·obtain⟨q,d,r,g1,g2,g3,o⟩:=he;exact⟨q,d,r,j.trans g1,g2,g3,o⟩
  ·obtain⟨x,y,q,d,r,g1,g2,g3,o⟩:=he;exact⟨x,y,q,d,r,j.trans g1,g2,g3,o⟩
  ·exact he.elim
def B3 (l:zY) (nl:Bool) (hnl:nl=true→l= []) (hl:l.length≤1000) (t:Ty) (ht:aP t=true) (σ:AS):
 ad prog 135 [.ao 5 (l.map u8) .full nl,cF t] σ
  (kQ (fun d=> .ao 5 ((l++hU t).map u8) (.tok d) false) (l++hU t).length σ) No:=
 La (by kernel_rfl) fun d h0=>by simpa using FG l d nl hnl hl t ht σ h0
def MG (t:Ty) (ht:aP t=true) (σ:AS):
 ad prog 135 [.ai,cF t] σ
  (kQ (fun d=> .ao 5 ((hU t).map u8) (.tok d) false) (hU t).length σ) No:=
 ad.wk [.ao 5 [] .full true,cF t] (B3 [] true (fun _ =>rfl) (by simp) t ht σ) rfl (fun i j=>by
  rcases i with _ | _ |i
  ·intro G v g;cases g;exact .iP ⟨none,rfl⟩
  ·exact Wk.refl _
  ·exact absurd j (by show ¬i+1+1<2;omega))
def lj {α:Type}(g:α→Bool) (l:List α):Int:=match l.findIdx? g with|some i=>(i:Int)|none=> -1
def ji {α:Type}{g:α→Bool}{l:List α}{i:Nat}(h:i<l.length) (h1:∀x∈l.take i,g x=false) (d:g l[i]=true):lj g l=i:=by
 have:l.findIdx? g=some i:=by rw[findIdx?_eq_some_iff_getElem];refine⟨h,d,fun j n=> ?_⟩;rw[h1 _ (by rw[mem_take_iff_getElem];exact⟨j,by omega,rfl⟩)];simp
 simp[lj,this]
def jh {α:Type}{g:α→Bool}{l:List α}(h1:∀x∈l,g x=false):lj g l= -1:=by
 have:l.findIdx? g=none:=by rw[findIdx?_eq_none_iff];exact h1
 simp[lj,this]
def jj {α:Type}(g:α→Bool) (l:List α):decide (0≤lj g l)=l.any g:=by
 unfold lj;cases h:l.findIdx? g with
 |none=>rw[findIdx?_eq_none_iff]at h;simp;exact h
 |some i=>rw[findIdx?_eq_some_iff_getElem]at h;obtain⟨h1,d,_⟩:=h;simp;exact⟨_,getElem_mem h1,d⟩
def fZ {α:Type}{g:α→Bool}{l:List α}{i:Nat}(h:i<l.length) (h1:∀x∈l.take i,g x=false) (j:g l[i]=false):∀x∈l.take (i+1),g x=false:=by
 intro x d;rw[take_succ_eq_append_getElem h]at d;rcases mem_append.1 d with d|d
 ·exact h1 x d
 ·simp at d;rw[d];exact j
def tT (l:List Ty) (o:cC) (nl:Bool) (v:AV) (g:Ty→Bool) (σ:AS) (hl:l.length≤140737488355328) (hf:∀x∈l,mM prog σ v [cF x] (.sc (.bool (g x)))):
 ad prog 173 [.ao 49 (l.map cF) o nl,v] σ (ah (zI (lj g l)) σ) No:=by
 refine ad.ob func173 ?_;refine gO aa tI tI ?_;refine aq.aQ (α:=(Nat)) (0) (fun i=>l.length-i) (fun i=>i≤l.length∧ ∀x∈l.take i,g x=false) [(0,?_),(1,?_),(7,?_)] (fun i=> [(8,zI i)]) (fun i=>σ) ?_ ?_ ?_ ?_;rotate_left 3
 ·exact gF tI
 ·exact gT
 ·(try dsimp only)<;>first|exact trivial|exact⟨by omega,rfl⟩|omega|(simp;done)|exact⟨by omega,by simp⟩|exact⟨by omega,by simp,rfl⟩
 intro i n;try dsimp only at n⊢
 obtain⟨w,u⟩:=n;simp only[eZ];by_cases d:i<l.length
 ·have j:zW ((i:Int)+1)=((i+1:Nat):Int):=bQ (by omega);have hu:=(hf l[i] (getElem_mem d));simp only[aC]at hu;cases q:g l[i]with
  |true=>
   rw[q]at hu;rw[ji d u q];repeat (first
    |refine g1 ?_
    |((first|refine g2 ?_ |((with_reducible apply ag.id);first|apply (hu.use)));simp-implicitDefEqProofs [d,aC])
    |(refine g3 ?_;try simp-implicitDefEqProofs))
  |false=>
   rw[q]at hu;repeat (first
    |refine g1 ?_
    |((first|refine g2 ?_ |((with_reducible apply ag.id);first|apply (hu.use)));simp-implicitDefEqProofs [d,aC,j])
    |(refine g3 ?_;try simp-implicitDefEqProofs))
   refine gB (i+1) gT ?_;try dsimp only
   exact⟨d,fZ d u q⟩
 ·rw[jh (by rwa [take_of_length_le (by omega)]at u)];exact gE aa (j2 d @aH) tI
def fp (l:List Ty) (o:cC) (nl:Bool) (d:AV) (g:Ty→Bool) (σ:AS) (hl:l.length≤140737488355328) (hf:∀x∈l,mM prog σ d [cF x] (.sc (.bool (g x)))):
 ad prog 118 [.ao 49 (l.map cF) o nl,d] σ (ah (.sc (.bool (l.any g))) σ) No:=by
 have i:=tT l o nl d g σ hl hf;rw[←jj];refine ad.ob func118 ?_;exact gE aa tI @i
def N9 (t:Ty) (σ:AS):ad prog 195 [cF t] σ (ah (.sc (.bool (!aZ t))) σ) No:=by have h:=fun σ=>qA t σ;refine ad.ob func195 ?_;simp only[aC]at h⊢;refine gO aa tI tI ?_;intro id d;refine gO aa tI @h ?_;exact AS.aj (lR _) d
def Ba (l:List Ty) (o:cC) (nl:Bool) (hl:l.length≤140737488355328) (σ:AS):
 ad prog 140 [.ao 49 (l.map cF) o nl] σ (ah (.sc (.bool (l.all aZ))) σ) No:=by
 have h:=fun σ=>fp l o nl (.sc (.func (.func 195) #[] #[])) (fun t=> !aZ t) σ hl (fun x _ =>mM.func (N9 x σ));have e:(!l.any fun t=> !aZ t)=l.all aZ:=by simp[all_eq_not_any_not]
 rw[←e];refine ad.ob func140 ?_;exact gE aa tI @h
def QW (t:Ty) (ht:aP t=true) (σ:AS):ad prog 64 [cF t] σ
 (kQ (fun j=> .bI [.ao 5 ((hU t).map u8) (.tok j) false,zI 0]) (hU t).length σ) No:=by
 have h:=fun σ=>ql t σ;have l:=fun σ=>MG t ht σ;rw[ht]at h;refine ad.ob func64 ?_;simp only[aC]at h l⊢;refine gO aa tI tI ?_;intro id i;refine gO aa tI (j2 @h @l) ?_;intro j d g;refine gO aa tI tI ?_;exact da j g (by simp) (aj (AS.aj (lR _) i))
def Oi (t:Ty) (ht:aP t=false) (σ:AS):ad prog 64 [cF t] σ
 (ah (.bI [.ai,zI 17]) σ) No:=by
 have h:=fun σ=>ql t σ;rw[ht]at h;refine ad.ob func64 ?_;simp only[aC]at h⊢;refine gO aa tI tI ?_;intro id d;refine gO aa tI @h ?_;exact AS.aj (lR _) d
def qj (t:Ty) (ht:bO t=true) (σ:AS):ad prog 62 [cF t] σ
 (kQ (fun j=> .bI [.ao 5 ((6::hU t).map u8) (.tok j) false,zI 0]) (6::hU t).length σ) No:=by
 have h:=fun σ=>tR t σ;have l:aP t=true:=by unfold bO aZ at ht;simp at ht;exact ht.1.1
 have n:=fun σ=>B3 [6] false (by simp) (by simp) t l σ;rw[ht]at h;simp at n;refine ad.ob func62 ?_;simp only[aC]at h n⊢;refine gO aa tI tI ?_;intro id i;refine gO aa tI (j2 @h @n) ?_;intro j d g;refine gO aa tI tI ?_;exact da j g (by simp) (aj (AS.aj (lR _) i))
def oT (t:Ty) (ht:bO t=false) (σ:AS):ad prog 62 [cF t] σ
 (ah (.bI [.ai,zI 17]) σ) No:=by
 have h:=fun σ=>tR t σ;rw[ht]at h;refine ad.ob func62 ?_;simp only[aC]at h⊢;refine gO aa tI tI ?_;intro id d;refine gO aa tI @h ?_;exact AS.aj (lR _) d
end Sg
end Go.Proofs.YtknalmoackcpbaaGreat
