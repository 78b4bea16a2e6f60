/- Pools: what is put there is found at its place (plain lists). -/
import Derived.Test.YtknalmoackcpbaaGreatLd9
set_option maxRecDepth 100000
set_option maxHeartbeats 3200000
set_option linter.all false
open Go Go.AW Go.Proofs.Tryz List
namespace Go.Proofs.YtknalmoackcpbaaGreat
namespace Pl
def Lh (pre post s:zY) (o:s.length≤536870911):jr (pre++(lp s++post)) pre.length=(s,0):=by
 have j:=Fi (bh s.length) (s++post) _ _ (BA s.length (by omega) (by omega));have n:=gr s.length (by omega) (by omega);have g:(bh s.length).length=(dU s.length).toNat:=by rw[bh,jX]
 have hd:(pre++(lp s++post)).drop ((pre.length:Nat):Int).toNat=bh s.length++(s++post):=by simp[lp]
 have i:0≤dU s.length:=by rcases fg s.length (by omega) (by omega)with⟨_,h⟩|⟨_,_,h⟩|⟨_,_,h⟩<;>rw[h]<;>decide
 have hlen:(pre++(lp s++post)).length=pre.length+((bh s.length).length+s.length+post.length):=by simp[lp];omega
 unfold jr;rw[hd,j,hlen];rw[if_neg (by omega),if_neg (by simp),if_neg (by simp only;omega)];generalize bh s.length=p at g;have l:(dU s.length+s.length).toNat=(p++s).length:=by simp;omega
 simp only;rw[l,←append_assoc,take_left,←g];simp
def J5 (pre post s:zY) (h1:1≤pre.length) (hf:bD s=true):jc (pre++(s++0::post)) pre.length=(s,0):=by
 have j:∀t:zY,t.all nM=true→rD 0 (t++0::post)=some t.length:=by
  intro t;induction t with
  |nil=>intro _;simp[rD]
  |cons c r g=>
   intro h;simp only[all_cons,Bool.and_eq_true]at h;have l:¬c=0:=by rintro rfl;simp[nM]at h
   simp[rD,l,g h.2]
 have i:=j s (by simp[bD]at hf;simp;exact hf.2.2);have hd:(pre++(s++0::post)).drop ((pre.length:Nat):Int).toNat=s++0::post:=by simp
 unfold jc;rw[hd,i,if_neg (by simp;omega)];simp[hf]
def Rf (p:zY) (q:zY×Nat):Prop:= ∃pre post,p=pre++(lp q.1++post)∧pre.length=q.2
def SX (p:zY) (q:zY×Nat):Prop:= ∃pre post,p=pre++(q.1++0::post)∧pre.length=q.2∧1≤q.2
def Rf.app {p:zY}{q:zY×Nat}(r:zY) (h:Rf p q):Rf (p++r) q:=by obtain⟨a,b,rfl,h⟩:=h;exact⟨a,b++r,by simp,h⟩
def SX.app {p:zY}{q:zY×Nat}(r:zY) (h:SX p q):SX (p++r) q:=by obtain⟨a,b,rfl,h⟩:=h;exact⟨a,b++r,by simp,h⟩
def y5 {s:zY}{a:Nat} :∀ {d:List (zY×Nat)},gN s d=some a→(s,a)∈d:=by
 intro d;induction d with
 |nil=>intro h;simp[gN]at h
 |cons q r g=>
  obtain⟨k,x⟩:=q;intro h;simp only[gN]at h;split at h
  ·rename_i e;cases h;subst e;simp
  ·exact mem_cons_of_mem _ (g h)
def QK:∀(l:List (zY)) (p:zY) (d:List (zY×Nat)),Rf p ([],0)→(∀q∈d,Rf p q)→
 (∀q∈(uj l p d).2,Rf (uj l p d).1 q)∧(uj l p d).2.map (·.1)=d.map (·.1)++l:=by
 intro l;induction l with
 |nil=>intro p d _ h;simpa[uj]using h
 |cons s r i=>
  intro p d h0 h;simp only[uj];split
  ·rename_i a ha;have:=i p (d++ [(s,a)]) h0 (by
    intro q g;rcases mem_append.1 g with g|g
    ·exact h q g
    ·obtain rfl:q=(s,a):=by simpa using g
     rcases mem_cons.1 (y5 ha)with e|e
     ·rw[e];exact h0
     ·exact h _ e)
   simpa using this
  ·have:=i (p++lp s) (d++ [(s,p.length)]) (h0.app _) (by
    intro q g;rcases mem_append.1 g with g|g
    ·exact(h q g).app _
    ·obtain rfl:q=(s,p.length):=by simpa using g
     exact⟨p,[],by simp,rfl⟩)
   simpa using this
def P9:∀(l:List (zY)) (p:zY) (d:List (zY×Nat)),1≤p.length→(∀q∈d,SX p q)→
 (∀q∈(tD l p d).2,SX (tD l p d).1 q)∧(tD l p d).2.map (·.1)=d.map (·.1)++l:=by
 intro l;induction l with
 |nil=>intro p d _ h;simpa[tD]using h
 |cons s r i=>
  intro p d h0 h;simp only[tD];split
  ·rename_i a ha;have:=i p (d++ [(s,a)]) h0 (by
    intro q g;rcases mem_append.1 g with g|g
    ·exact h q g
    ·obtain rfl:q=(s,a):=by simpa using g
     exact h _ (y5 ha))
   simpa using this
  ·have:=i (p++s++ [0]) (d++ [(s,p.length)]) (by simp;omega) (by
    intro q g;rcases mem_append.1 g with g|g
    ·exact((h q g).app _).app _
    ·obtain rfl:q=(s,p.length):=by simpa using g
     exact⟨p,[],by simp,rfl,h0⟩)
   simpa using this
def Lq {l:List (zY)}{D:List (zY×Nat)}(h:D.map (·.1)=l) {i:Nat}{s:zY}(g:l[i]? =some s):∃a,D[i]? =some (s,a)∧(s,a)∈D:=by
 subst h;rw[getElem?_map]at g;cases hd:D[i]? with
 |none=>rw[hd]at g;simp at g
 |some q=>rw[hd]at g;obtain⟨k,a⟩:=q;simp at g;subst g;exact⟨a,rfl,mem_of_getElem? hd⟩
def getD_map {D:List (zY×Nat)}{i:Nat}{s:zY}{a:Nat}(h:D[i]? =some (s,a)):(D.map (fun p=>(p.2:Int))).getD i 0=a:=by simp[getD_eq_getElem?_getD,h]
def J4 {l:List (zY)}(h:(bJ l).2.2=0) {i:Nat}{s:zY}(j:l[i]? =some s):jc (bJ l).1 ((bJ l).2.1.getD i 0)=(s,0)∧bD s=true:=by
 unfold bJ at h⊢;split at h
 ·simp at h
 rename_i hf;split at h
 ·simp at h
 rename_i q;rw[if_neg hf,if_neg q];have g:∀x∈l,bD x=true:=by simpa using hf
 obtain⟨h1,u⟩:=P9 l [0] [] (by simp) (by simp);obtain⟨a,ha,hm⟩:=Lq (by simpa using u) j;obtain⟨pre,post,o,n,v⟩:=h1 _ hm;simp only at o n v⊢;rw[getD_map ha,o,←n];exact⟨J5 pre post s (by omega) (g s (mem_of_getElem? j)),g s (mem_of_getElem? j)⟩
def Lf {l:List (zY)}(h:(bU l).2.2=0) {i:Nat}{s:zY}(o:l[i]? =some s) (n:s.length≤536870911):jr (bU l).1 ((bU l).2.1.getD i 0)=(s,0):=by
 unfold bU at h⊢;split at h
 ·simp at h
 rename_i q;rw[if_neg q];obtain⟨h1,u⟩:=QK l [0] [] ⟨[],[],by decide+kernel,rfl⟩ (by simp);obtain⟨a,ha,hm⟩:=Lq (by simpa using u) o;obtain⟨pre,post,j,g⟩:=h1 _ hm;simp only at j g⊢;rw[getD_map ha,j,←g];exact Lh pre post s n
end Pl
namespace Sg
def U7 (x:Except Int (List Ty×Nat)) (b:zY) (nl:Bool) (id:Nat) (σ:AS) (r:AV) (h:AS):Prop:= ∃v a g,x= .ok (v,a)∧σ g=none∧r= .ao 49 (v.map cF) (.tok g) (decide (v= []))∧h=(σ.set g (.tok v.length)).set id (bA b (a:Nat) nl)
def Kh (n:Nat) (hn:n≤100) (id:Nat) (b:zY) (a:Nat) (nl:Bool) (σ:AS) (h:σ id=some (bA b a nl)) (ha:a≤b.length) (V:nl=true→b= []) (hb:b.length≤100000):
 ad prog 209 [jy id,zI n] σ (U7 (eList b n a) b nl id σ) (TD (eList b n a) b nl id σ):=by
 have hm:=fun x σ h hx=>As aZ (.sc (.func (.func 183) #[] #[])) (fun σ t=>mM.func (qA t σ)) id b x nl σ h hx V hb;refine ad.ob func209 ?_;simp only[jy]at hm⊢;refine gO aa tI tI ?_;intro E o;have g:¬id=E:=nq h o;have v:=aK g;refine gO aa tI tI ?_;refine aq.fy 5 49 [] true (by simp) (.inr ⟨by simp,rfl,rfl⟩) ?_;simp-implicitDefEqProofs;intro H j w;have u:=aK j;have l:¬id=H:=nq h w;refine aq.aQ (α:=(Nat)×(List Ty)×(Nat)) ((0,[],a)) (fun⟨i,d,q⟩=>n-i) (fun⟨i,d,q⟩=>i≤n∧d.length=i∧Ae d (eList b (n-i) q)=eList b n a∧q≤b.length) [(2,?_),(4,?_),(6,?_)] (fun⟨i,d,q⟩=> [(7,zI i),(5,.ao 49 (d.map cF) (.tok H) (decide (d= [])))]) (fun⟨i,d,q⟩=>((σ.set E (.cells 275 [.ptr id 0])).set H (.tok d.length)).set id (bA b q nl)) ?_ ?_ ?_ ?_;rotate_left 3
 ·exact gF tI
 ·(try dsimp only);(simp;rw[fF (by simp[g,l,h])];exact lR _)
 ·exact⟨by omega,rfl,by simp;cases eList b n a<;>simp[Ae],ha⟩
 intro x_ O;obtain⟨i,d,q⟩:=x_;try dsimp only at O⊢
 obtain⟨hi,hd,J,hq⟩:=O;simp only[eZ];have P:∀(L K y:bP),AS.le (σ.set id y) (((σ.set E L).set H K).set id y):=fun L K y=>aj (AS.aj (AS.aj (lR _) o) w);have I:∀(L K y:bP),AS.le ((σ.set H K).set id y) (((σ.set E L).set H K).set id y):=fun L K y=>aj (aj (AS.aj (lR _) o));by_cases G:i<n
 ·have M:zW ((i:Int)+1)=((i+1:Nat):Int):=bQ (by omega);obtain⟨k,hk⟩:∃k,n-i=k+1:=⟨n-i-1,by omega⟩;rw[hk,yT]at J;cases Q:kP aZ b q with
  |error e=>
   rw[Q]at J;have F:=fun σ h=>RD.bad (hm q σ h hq) Q;repeat (first
    |refine g1 ?_
    |((first|refine g2 ?_ |((with_reducible apply ag.id);first|apply (Vf (F _ (by simp)))));simp-implicitDefEqProofs [G,v,u])
    |(refine g3 ?_;try simp-implicitDefEqProofs))
   intro x;exact⟨_,P _ _ _,e,J.symm,rfl,x,rfl⟩
  |ok y=>
   obtain⟨t,q1⟩:=y;rw[Q]at J;have F:=fun σ h=>RD.ok (hm q σ h hq) Q;have T:=vI Q;simp only[aC]at F;have ap:d.length≤100:=by omega
   refine gO aa (j6 G @aH g l j @M) @F ?_;refine jC.mk ((i+1,d++ [t],q1)) gM (gF @aC) (by(try dsimp only);(simp;done)) ?_;try dsimp only
   exact⟨G,by simp[hd],by rw[←J,show n-(i+1)=k by omega],T⟩
 ·have X:n-i=0:=by omega
  rw[X]at J;have Y:eList b n a= .ok (d,q):=by rw[←J];simp[eList,Ae]
  refine gO aa (j2 G @aH) tI ?_;exact⟨_,_,Wk.refl _,I _ _ _,d,q,H,Y,w,rfl,rfl⟩
def Mj {b:zY}{s:Sg}(h:dy b= .ok s):∃c o n j t i l u,eB b 0= .ok (c,o)∧(c=0∨c=32)∧xw b o= .ok (n,j)∧n≤6∧kP cx b j= .ok (t,i)∧eList b n.toNat i= .ok (l,u)∧ ¬u<b.length∧s=⟨decide (c=32),l,t⟩:=by
 unfold dy oI at h;split at h
 ·cases h
 ·rename_i v a g;split at h
  ·cases h
  ·rename_i q;cases h;unfold pU at g;split at g
   ·cases g
   ·rename_i c o E;split at g
    ·rename_i w;split at g
     ·cases g
     ·rename_i n j y;split at g
      ·rename_i H;split at g
       ·cases g
       ·rename_i t i F;split at g
        ·cases g
        ·rename_i l u G;cases g;exact⟨c,o,n,j,t,i,l,a,E,w,y,H,F,G,q,rfl⟩
      ·cases g
    ·cases g
def U7.ok {f:FuncId}{args:List AV}{x:Except Int (List Ty×Nat)}{b:zY}{nl:Bool}{id:Nat}{σ:AS}{v:List Ty}{a:Nat}(h:ad prog f args σ (U7 x b nl id σ) (TD x b nl id σ)) (j:x= .ok (v,a)):
 ad prog f args σ (fun r i=> ∃g,σ g=none∧r= .ao 49 (v.map cF) (.tok g) (decide (v= []))∧i=(σ.set g (.tok v.length)).set id (bA b a nl)) No:=
 h.mono (fun r i l=>by obtain⟨w,y,g,h1,u,q,o⟩:=l;rw[j]at h1;cases h1;exact⟨g,u,q,o⟩) (fun p i n=>by obtain⟨e,h1,_⟩:=n;rw[j]at h1;cases h1)
def Ub (s:Sg) (g:Nat):AV:= .agg [.sc (.bool s.this),.ao 49 (s.ps.map cF) (.tok g) (decide (s.ps= [])),zI s.ret.kind,zI s.ret.index,zI s.ret.bT,.sc (.bool s.ret.ref)]
def Ez (b:zY) (s:Sg) (hs:dy b= .ok s) (o:cC) (nl:Bool) (K:nl=true→b= []) (hl:b.length≤100000) (σ:AS):
 ad prog 170 [.ao 5 (b.map u8) o nl] σ (fun r σ'=> ∃O,σ O=none∧r= .bI [Ub s O,zI 0]∧σ'=σ.set O (.tok s.ps.length)) No:=by
 refine ad.iZ func170 rfl rfl (by simp[ntmps170]) (fun G1=> ?_);apply kS.seq;have X:f170.ntmps=38:=rfl;simp-implicitDefEqProofs only[X];refine gO aa tI tI ?_;intro av bf;refine gO aa tI tI ?_;intro id3 i be;have y:=aK i;apply kS.defer (by simp) (by decide+kernel);intro D;simp-implicitDefEqProofs only[X];refine gO aa tI tI ?_;refine ag.of (oB b o nl K (by omega) _) ?_ (fun _ _ h=>h.elim);rintro r σ1 ⟨id,ac,rfl,rfl⟩;simp at ac;obtain⟨E,j,b2⟩:=ac;have I:=aK E;have F:=aK j;simp-implicitDefEqProofs;refine gO aa tI tI ?_;intro id5 u v g bc;have H:=aK u;have G:=aK v;have w:=aK g;have M:=fun e σ=>cD e σ;have ho:=fun σ h=>Ak id b 0 nl σ h (by omega) hl;have hp:=fun x Q σ h=>lM id b x nl σ h Q K hl;have hm:=fun x Q σ h=>As cx (.sc (.func (.func 191) #[] #[])) (fun σ t=>mM.func (oF t σ)) id b x nl σ h Q K hl;have ab:=fun n hn x Q σ h=>Kh n hn id b x nl σ h Q K hl;simp only[jy]at ho hp ab hm;obtain⟨c,a1,n,a2,t,a3,l,a4,hO,hc,hP,h6,hM,hL,ch,rfl⟩:=Mj hs;have V:=fun σ h=>RD.ok (ho σ h) hO;have bb:=zm hO;simp only[sE]at V;have z0:=lC (c:=c) (n:=0) (by omega);have ca:=lC (c:=c) (n:=32) (by omega);have a7:∃(p q th:Bool),(c.toNat=0)=(p=true)∧((c.toNat:Int)=32)=(q=true)∧(p||q)=true∧decide (c=32)=th∧th= !p:=by
  rcases hc with rfl|rfl
  ·exact⟨true,false,false,by simp,by simp,rfl,by decide,rfl⟩
  ·exact⟨false,true,true,by simp,by simp,rfl,by decide,rfl⟩
 obtain⟨p,q,th,y0,al,a5,a0,rfl⟩:=a7;have T:=fun σ h=>RD.ok (hp a1 bb σ h) hP;have a9:=EH hP;have cd:=(oK hP).1;simp only[Kw]at T;obtain⟨m,rfl⟩:∃m:Nat,n=m:=⟨n.toNat,by omega⟩;have af:=vI hM;have Y:=fun σ h=>RD.ok (hm a2 a9 σ h) hM;simp only[aC]at Y;simp only[Int.toNat_natCast]at hL;have a8:=xx af hL;have a6:=fun σ h=>U7.ok (ab m (by omega) a3 af σ h) hL;have he:=fun σ h=>AN id b a4 nl σ h a8 hl (by omega);simp only[jy]at he;cases p<;>cases q<;>first|(cases a5;done)|skip
 all_goals
  refine gO aa (j7 @y0 @al @h6 i j u g) (j4 @V @M @T @Y) ?_;refine ag.of (a6 _ (by simp[H])) ?_ (fun _ _ h=>h.elim);rintro r σ1 ⟨O,J,rfl,rfl⟩;simp at J;obtain⟨t5,t0,t3,t2,J⟩:=J;have ap:=aK t5;have ar:=aK t0;have P:=aK t3;have L:=aK t2;simp-implicitDefEqProofs [t0,t2,L,i,y,j,F,u,g,w];refine gO aa (And.intro (j7 @t3 @t2 @ap @ar @P @L i) (j5 E j u v g)) @he ?_;refine sq av id3 _ _ ?_;simp-implicitDefEqProofs [F,I,w,G,y,P,L];refine⟨_,σ.set O (.tok l.length),Wk.refl _,aj ?_,O,J,by simp[Ub,a0],rfl⟩;repeat (first|exact lR _ |refine AS.aj ?_ (by assumption))
end Sg
end Go.Proofs.YtknalmoackcpbaaGreat
namespace Go.Proofs.YtknalmoackcpbaaGreat
namespace Im
abbrev il:bW:=(.S 0 (.S 1 (.S 2 (.S 3 (.S 5 (.S 6 (.S 7 (.S 8 (.S 9 (.S 10 (.S 11 (.S 12 (.S 13 (.S 14 (.A 4 (.S 15 (.A 16 (.A 17 .D .Z) .Z)) (.A 16 (.A 4 (.S 15 (.A 17 .D .Z)) .Z) .Z))))))))))))))))
abbrev iU:bW:=(.S 0 (.S 2 (.R 1 (.S 4 (.A 3 (.A 5 (.S 6 (.A 7 .D .Z)) .Z) (.A 5 (.R 3 (.S 6 (.A 7 .D .Z))) .Z))))))
abbrev lK:bW:=(.S 0 (.S 1 (.S 3 (.S 4 (.S 5 (.S 9 (.R 2 (.R 6 (.R 7 (.S 8 (.A 10 .D .Z)))))))))))
abbrev lJ:bW:=(.S 0 (.S 1 (.S 2 (.S 4 (.S 5 (.R 3 (.R 6 (.S 7 (.S 8 (.R 9 (.A 10 (.S 11 (.A 12 .D .Z)) .Z)))))))))))
abbrev lI:bW:=(.S 0 (.S 1 (.S 2 (.S 3 (.S 4 (.R 5 (.R 6 (.S 7 (.A 8 (.S 9 (.S 10 (.S 11 (.A 12 .D .Z)))) .Z)))))))))
def bm (S:List Nat):bH prog [(7,il),(16,iU),(17,lK),(19,lJ),(22,lI)] S:=mixed
open Rg (Cl fY aL b7 bz dA)
open Sg (iX b9 dy Ub)
variable {k:LK} {e:LE} {d:LD} {B τ:AS}
def LI.WG (h:LI k e d B τ) (t:Mt):LI k e { d with ms:=d.ms++ [t] } B ((τ.set k.tM (.tok (d.ms.length+1))).set k.id (.cells 108 (Dy k e { d with ms:=d.ms++ [t] } 0))):=by
 obtain⟨n1,n2,o,n,w,v,l,u,i,g⟩:=h.ne;refine h.mk' (AS.ak _ _ _) ?_ ?_ ?_ ?_ fun j q j2 j3 j4 j5=> ?_
 ·rw[AS.ae _ _ n1.symm,AS.ae _ _ l];exact h.tP
 ·rw[AS.ae _ _ n2.symm,AS.ae _ _ i];exact h.tO
 ·rw[AS.ae _ _ o.symm,AS.ae _ _ g];exact h.tF
 ·rw[AS.ae _ _ n.symm,AS.ak];simp
 ·rw[AS.ae _ _ q,AS.ae _ _ j5]
def Vm {l:List (List Int)}(h:nD 6 l) {i:Nat}(j:i<l.length):∃a b c x y z,l[i]? =some [a,b,c,x,y,z]∧l.drop i= [a,b,c,x,y,z]::l.drop (i+1)∧(0≤a∧a<4294967296)∧(0≤b∧b<4294967296)∧(0≤c∧c<4294967296)∧(0≤x∧x<4294967296)∧(0≤y∧y<4294967296)∧(0≤z∧z<4294967296):=by
 obtain⟨h1,g⟩:=h.2 l[i] (getElem_mem j)
 match n:l[i],h1,g with
 |[a,b,c,x,y,z],_,g=>exact⟨a,b,c,x,y,z,by rw[getElem?_eq_getElem j,n],by rw[drop_eq_getElem_cons j,n],g a (by simp),g b (by simp),g c (by simp),g x (by simp),g y (by simp),g z (by simp)⟩
def mi (a b c x y z:Int):uW [a,b,c,x,y,z]= .ao 3 [zI a,zI b,zI c,zI x,zI y,zI z] .aI false:=rfl
def BM {b:zY}(h:b9 (dy b)=0):∃x,dy b= .ok x:=by
 cases g:dy b with
 |ok x=>exact⟨x,rfl⟩
 |error e=>exfalso;rw[g]at h;exact Sg.I8 g h
def Wj {P:Program}{n:Nat}{ds:List Deferred}{o l j:AQ}{s:Fr}{σ:AS}{α:Type}{r g y:Code}(I:α→Prop) (fr:α→List (Nat×AV)) (st:α→AS)
 (h1:aq P n ds r (dF (aq P n ds g (dF (Sg.fK P I fr st) l)) j) s σ) (w:∀v,I v→aq P n ds y o (iO (fr v)) (st v)):aq P n ds r (dF (aq P n ds g (dF (aq P n ds y o) l)) j) s σ:=by
 refine h1.mono fun e u q h=> ?_;cases e with
 |normal=>
  refine aq.mono h fun e u q h=> ?_;cases e with
  |normal=>obtain⟨v,i1,i2,i3⟩:=h;exact(w v i1).weaken i2 i3
  |exit i=>exact h
  |ret=>exact h
  |panic x=>exact h
 |exit i=>exact h
 |ret=>exact h
 |panic x=>exact h
def m8 (nm:zY) (o b:Int) (s:Sg.Sg) (c:Int) (l h g:AV):List AV:= [zS nm,zI o,zI b,.ao 49 (s.ps.map cF) .aI (decide (s.ps= [])),zI s.ret.kind,zI s.ret.index,zI s.ret.bT,.sc (.bool s.ret.ref),l,zI c,h,g]
def Cm (nm:zY) (o b:Int) (s:Sg.Sg) (c:Int) (l h g:AV):m8 nm o b s c l h g= [zS nm,zI o,zI b,.ao 49 (s.ps.map cF) .aI (decide (s.ps= [])),zI s.ret.kind,zI s.ret.index,zI s.ret.bT,.sc (.bool s.ret.ref),l,zI c,h,g]:=rfl
def WQ (k:LK) (e:LE) (d:LD) (B:AS) (v:List Mt) (r:AV) (g:AS):Prop:=r= .bI []∧LI k e { d with ms:=v } B g
def LI.methods (h:LI k e d B τ) (hs:d.ms= []) (ge:d.sp.length≤100000) (is:d.lo.length≤70000) (e4:∀x∈d.lo,x.length≤12) (nt:Nat) (gs:e.t0.length=nt) (es:∀σ K,jz prog σ 22 d.ty K=K (zI nt)):
 ad prog 111 [.ptr k.id 0] τ (RL (iK e d.sp d.lo) (WQ k e d B)) (TL (iK e d.sp d.lo) B):=by
 have hm:=fun a t r σ=>lg a t r σ;obtain⟨X,g⟩:∃X,iK e d.sp d.lo=X:=⟨_,rfl⟩;rw[g];unfold iK at g;have ap:=h.id;rw[cf]at ap;simp only[cv]at ap;have iC:∀ {f τ'},X= .error f→AS.le B τ'→ ∃σ',AS.le σ' τ'∧TL X B (pQ f) σ':=fun {f τ'} hx hle=>⟨τ',lR _,_,hx,rfl,hle⟩;have h1:=h.e.t2;have eB:=h.e.B;have fi:=fun σ=>ep 5 2 0 (by omega) (by omega) (by omega) (by omega) σ;have cl:=h.JO 4 (by omega) e.t2.length h1.1;have hc:(e.t2= []∧True)∨(¬e.t2= []∧(0<nt)=True)∨(¬e.t2= []∧ ¬0<nt):=by
  by_cases H:e.t2= []
  ·exact .inl ⟨H,trivial⟩
  ·by_cases c2:0<nt
   ·exact .inr (.inl ⟨H,eq_true c2⟩)
   ·exact .inr (.inr ⟨H,c2⟩)
 rw[gs]at g cl;refine ad.ob func111 ?_;refine gO (S:= [1]) bm @ap tI ?_;try apply aq.seq
 refine Sg.xC (α:=Unit) (fun _ =>cA (eu 4 e.t2.length nt [] 1 0 e.t0) (fun F=>kx e d.sp d.lo F [] 0 e.t2)=X) (fun _ => [(0,.ptr k.id 0),(2,.ao 44 (e.t2.map uW) .aI (decide (e.t2= [])))]) (fun _ =>τ) ?_ ?_
 ·rcases hc with⟨H,c2⟩|⟨H,c2⟩|⟨H,c2⟩
  ·have ar:cA (eu 4 e.t2.length nt [] 1 0 e.t0) (fun F=>kx e d.sp d.lo F [] 0 e.t2)=X:=by rw[←g];simp[bK,H]
   obtain⟨P,hP⟩:∃P,cA (eu 4 e.t2.length nt [] 1 0 e.t0) (fun F=>kx e d.sp d.lo F [] 0 e.t2)=P:=⟨_,rfl⟩;rw[hP]at ar⊢;generalize e.t2=T1 at ap H⊢;subst H;refine gO bm tI @hm ?_;refine fK.mk (()) (gF tI) gT ?_;try dsimp only
   exact ar
  ·have ar:cA (eu 4 e.t2.length nt [] 1 0 e.t0) (fun F=>kx e d.sp d.lo F [] 0 e.t2)=X:=by rw[←g];simp[bK,H,of_eq_true c2]
   generalize hP:cA (eu 4 e.t2.length nt [] 1 0 e.t0) (fun F=>kx e d.sp d.lo F [] 0 e.t2)=P at*;refine uK (bm []) @es (j3 @ap @H @c2) @hm (k:= ?_);refine fK.mk (()) (gF tI) gT ?_;try dsimp only
   exact ar
  ·have ar:X= .error (mF 5 2 0):=by rw[←g];simp[bK,H,c2]
   refine uK (bm []) @es (j3 @ap @H @c2) @fi (k:= ?_);exact iC ar h.le
 ·intro _ g;rcases aG g with⟨F,hO,g⟩|⟨f,hO,g⟩
  ·have a3:=RL.ok cl hO;have io:=nJ hO (by simp) (by omega);refine gO bm tI @a3 ?_;obtain⟨Y,hY⟩:∃Y,kx e d.sp d.lo F [] 0 e.t2=Y:=⟨_,rfl⟩;rw[hY]at g;refine aq.aQ (α:=(Nat)×(List Mt)×(AS)) ((0,[],τ)) (fun⟨i,ms,τ1⟩=>e.t2.length-i) (fun⟨i,ms,τ1⟩=>i≤e.t2.length∧ms.length=i∧kx e d.sp d.lo F ms i (e.t2.drop i)=Y∧LI k e { d with ms:=ms } B τ1) [(0,?_),(3,?_),(35,?_),(36,?_)] (fun⟨i,ms,τ1⟩=> [(37,zI i)]) (fun⟨i,ms,τ1⟩=>τ1) ?_ ?_ ?_ ?_;rotate_left 4
   ·exact gF tI
   ·exact gT
   ·exact⟨by omega,rfl,hY,by rw[←hs];exact h⟩
   intro x_ a2;obtain⟨i,ms,τ1⟩:=x_;try dsimp only at a2⊢
   obtain⟨hi,gt,l,h2⟩:=a2;simp only[eZ];by_cases gI:i<e.t2.length
   ·obtain⟨a,b,c,x,y,z,M,g0,ha,hb,i0,am,ih,ie⟩:=Vm h1 gI;have i4:=h1.1;rw[g0]at l;simp only[kx,wX,eW,getD_cons_zero,getD_cons_succ,fO,iI,cL]at l;have hI:((i:Int)<e.t2.length)=True:=by simp;omega
    have a7:i<F.length:=by omega
    have O:F[i]? =some F[i]:=getElem?_eq_getElem a7;have g4:F.getD i 0=F[i]:=by rw[getD_eq_getElem?_getD,O];rfl
    rw[g4]at l;obtain⟨o,a5⟩:∃o,F[i]=o:=⟨_,rfl⟩;rw[a5]at O l;have bad:=fun a σ=>ep a 2 i (by omega) (by omega) (by omega) (by omega) σ;have wi:zW ((i:Int)+1)=i+1:=az (by omega) (by omega);have e1:=h2.name x am.1 am.2;rcases aw l with⟨c0,l⟩|⟨c0,l⟩
    ·have H:b≤31:=by simp at c0;exact c0.1
     have c2:c≤12:=by simp at c0;exact c0.2
     rcases aG l with⟨nm,hN,l⟩|⟨f,hN,l⟩
     ·have T:=RL.ok e1 hN;have Q:=fun j x' (hj:τ1 j=none)=>RL.ok ((h2.own (b:=x') hj).name x am.1 am.2) hN;refine gO (S:= [7]) bm (j5 hI @M @mi @H @c2) @hm ?_;try apply aq.seq
      refine HV (α:=Nat) (fun v=>τ1 v=none) (fun v=> [(0,.ptr k.id 0),(3,.ao 3 (F.map aS) .aI (decide (F= []))),(4,zI i),(5,uW [a,b,c,x,y,z]),(6,.ptr v 0),(35,.ao 44 (e.t2.map uW) .aI (decide (e.t2= []))),(36,zI e.t2.length),(37,zI i)])
       (fun v=>τ1.set v (.cells 53 [zS nm,zI o,zI b,.ai,zI 0,zI 0,zI 0,zB false,.ai,zI c,.ai,.ai])) (fun _ _ =>rfl) ?_ ?_
      ·(((with_reducible apply dX 7 il);refine dY mixed ?_);simp-implicitDefEqProofs [a7,a5,mi,aF])
       repeat' (first
        |(with_reducible apply j2)
        |(intro id6 ab;try simp-implicitDefEqProofs [O,a7,a5,mi,aF])
        |(refine ag.ay T ?_;try simp-implicitDefEqProofs)
        |(refine ag.ay (Q _ _ (by assumption)) ?_;try simp-implicitDefEqProofs))
       all_goals
        refine fK.mk (id6) (gF @mi) gT ?_;try dsimp only
        exact(by assumption)
      ·intro id6 ab;have h3:=h2.own (b:= .cells 53 [zS nm,zI o,zI b,.ai,zI 0,zI 0,zI 0,zB false,.ai,zI c,.ai,.ai]) ab;have dp:B id6=none:=h2.mD ab;have J:AS.le B (B.set id6 (.cells 53 [zS nm,zI o,zI b,.ai,zI 0,zI 0,zI 0,zB false,.ai,zI c,.ai,.ai])):=AS.aj (lR _) dp;have k6:(B.set id6 (.cells 53 [zS nm,zI o,zI b,.ai,zI 0,zI 0,zI 0,zB false,.ai,zI c,.ai,.ai])) id6=some (.cells 53 [zS nm,zI o,zI b,.ai,zI 0,zI 0,zI 0,zB false,.ai,zI c,.ai,.ai]):=AS.ak _ _ _;have i2:∀v,AS.le (B.set id6 v) ((B.set id6 (.cells 53 [zS nm,zI o,zI b,.ai,zI 0,zI 0,zI 0,zB false,.ai,zI c,.ai,.ai])).set id6 v):=fun v=>le_eq (by rw[AS.set_set]);generalize i3:(B.set id6 (.cells 53 [zS nm,zI o,zI b,.ai,zI 0,zI 0,zI 0,zB false,.ai,zI c,.ai,.ai]))=A at*;generalize (τ1.set id6 (.cells 53 [zS nm,zI o,zI b,.ai,zI 0,zI 0,zI 0,zB false,.ai,zI c,.ai,.ai]))=τ2 at*;have fa:=h3.yx y;rcases aG l with⟨bb,b3,l⟩|⟨f,b3,l⟩
       ·have a8:=RL.ok fa b3;have hL:=qz b3;have b2:=fun σ=>Sg.HF bb .aI false (by simp) (by omega) σ;rcases aw l with⟨c5,l⟩|⟨c5,l⟩
        ·have c5:b9 (dy bb)=0:=by simpa using c5
         obtain⟨sg,ew⟩:=BM c5;have hg:=fun σ=>Sg.Ez bb sg ew .aI false (by simp) (by omega) σ;have e0:=I7 bb;rw[ew]at l e0;simp only[iX]at l e0;refine gO (S:= [10]) bm @mi @a8 ?_;refine ag.of (hg _) ?_ (fun _ _ h=>h.elim);rintro r3 τ3 ⟨u,et,rfl,rfl⟩;simp only[Ub];simp-implicitDefEqProofs;refine gO (S:= [10]) bm tI tI ?_;intro E b0 V;have h4:=h3.own (b:= .tok sg.ps.length) et;have c8:(τ2.set u (.tok sg.ps.length)) E=none:=by rw[AS.ae _ _ b0];exact V
         have h5:=h4.own (b:= .cells 149 [.sc (.bool sg.this),.ao 49 (sg.ps.map cF) (.tok u) (decide (sg.ps= [])),zI sg.ret.kind,zI sg.ret.index,zI sg.ret.bT,.sc (.bool sg.ret.ref)]) c8;have d3:A u=none:=h3.mD et;have fd:A E=none:=h3.mD V;have f3:¬u=E:=fun e'=>b0 e'.symm;have ej:id6≠u:=nq d3 k6;have em:id6≠E:=nq fd k6;have e6:((A.set u (.tok sg.ps.length)).set E (.cells 149 [.sc (.bool sg.this),.ao 49 (sg.ps.map cF) (.tok u) (decide (sg.ps= [])),zI sg.ret.kind,zI sg.ret.index,zI sg.ret.bT,.sc (.bool sg.ret.ref)])) E=some (.cells 149 [.sc (.bool sg.this),.ao 49 (sg.ps.map cF) (.tok u) (decide (sg.ps= [])),zI sg.ret.kind,zI sg.ret.index,zI sg.ret.bT,.sc (.bool sg.ret.ref)]):=AS.ak _ _ _;have e5:((A.set u (.tok sg.ps.length)).set E (.cells 149 [.sc (.bool sg.this),.ao 49 (sg.ps.map cF) (.tok u) (decide (sg.ps= [])),zI sg.ret.kind,zI sg.ret.index,zI sg.ret.bT,.sc (.bool sg.ret.ref)])) u=some (.tok sg.ps.length):=by rw[AS.ae _ _ f3,AS.ak]
         have e7:((A.set u (.tok sg.ps.length)).set E (.cells 149 [.sc (.bool sg.this),.ao 49 (sg.ps.map cF) (.tok u) (decide (sg.ps= [])),zI sg.ret.kind,zI sg.ret.index,zI sg.ret.bT,.sc (.bool sg.ret.ref)])) id6=some (.cells 53 [zS nm,zI o,zI b,.ai,zI 0,zI 0,zI 0,zB false,.ai,zI c,.ai,.ai]):=by rw[AS.ae _ _ em,AS.ae _ _ ej];exact k6
         have ce:AS.le A ((A.set u (.tok sg.ps.length)).set E (.cells 149 [.sc (.bool sg.this),.ao 49 (sg.ps.map cF) (.tok u) (decide (sg.ps= [])),zI sg.ret.kind,zI sg.ret.index,zI sg.ret.bT,.sc (.bool sg.ret.ref)])):=AS.aj (AS.aj (lR _) d3) fd;generalize ((A.set u (.tok sg.ps.length)).set E (.cells 149 [.sc (.bool sg.this),.ao 49 (sg.ps.map cF) (.tok u) (decide (sg.ps= [])),zI sg.ret.kind,zI sg.ret.index,zI sg.ret.bT,.sc (.bool sg.ret.ref)]))=A4 at*;generalize ((τ2.set u (.tok sg.ps.length)).set E (.cells 149 [.sc (.bool sg.this),.ao 49 (sg.ps.map cF) (.tok u) (decide (sg.ps= [])),zI sg.ret.kind,zI sg.ret.index,zI sg.ret.bT,.sc (.bool sg.ret.ref)]))=τ4 at*;have t7:=h5.le _ _ e6;have tt:=h5.le _ _ e5;have t6:=h5.le _ _ e7;have cd:AS.le B τ4:=AS.le_trans J (AS.le_trans ce h5.le);have hand:zW (lr 64 b 1)=b%2:=by have fe:=js (w:=64) (a:=b) 1 (by omega) (by omega) (by omega);rw[show((2:Int)^1-1)=1 from rfl,show((2:Int)^1)=2 from rfl]at fe;rw[fe];exact az (by omega) (by omega)
         rcases aw l with⟨c6,l⟩|⟨c6,l⟩
         ·clear c5;refine gO (S:= [11]) bm (j4 @t7 @t6 @hand @c6) @hm ?_;have hG:sg.ps.length≤70000:=by omega
          have hZ:¬E=u:=b0;have h6:=h5.wr (b:= .tok (sg.ps.length+1)) e5;have ca:(A4.set u (.tok (sg.ps.length+1))) E=some (.cells 149 [.sc (.bool sg.this),.ao 49 (sg.ps.map cF) (.tok u) (decide (sg.ps= [])),zI sg.ret.kind,zI sg.ret.index,zI sg.ret.bT,.sc (.bool sg.ret.ref)]):=by rw[AS.ae _ _ b0];exact e6
          have a6:(A4.set u (.tok (sg.ps.length+1))) id6=some (.cells 53 [zS nm,zI o,zI b,.ai,zI 0,zI 0,zI 0,zB false,.ai,zI c,.ai,.ai]):=by rw[AS.ae _ _ ej];exact e7
          have he:B u=none:=by
           cases gc:B u with
           |none=>rfl
           |some yy=>have:=J _ _ gc;rw[d3]at this;cases this
          have be:AS.le B (A4.set u (.tok (sg.ps.length+1))):=AS.aj (AS.le_trans J ce) he;refine gO (S:= [16]) bm (j2 @t7 @tt) tI ?_;generalize (A4.set u (.tok (sg.ps.length+1)))=A5 at*;generalize (τ4.set u (.tok (sg.ps.length+1)))=τ5 at*;obtain⟨I,c4⟩:∃I,sg.ps++ [sg.ret]=I:=⟨_,rfl⟩;have b5:sg.ps.map cF++ [.agg [zI sg.ret.kind,zI sg.ret.index,zI sg.ret.bT,.sc (.bool sg.ret.ref)]]=I.map cF:=by rw[←c4];simp[Sg.aC]
          have hH:sg.ps.length+1=I.length:=by rw[←c4];simp
          have b6:(sg.ps.length:Int)+1=I.length:=by omega
          rw[b5,b6];rw[c4]at l;have hJ:I.length≤7:=by omega
          obtain⟨W,hW⟩:∃W,kM e.t0.length i I=W:=⟨_,rfl⟩;rw[hW]at l;clear b5 b6 hg b2 a8 T Q h3 h4 t7 t6 tt;refine aq.aQ (α:=(Nat)×(AS)) ((0,τ5)) (fun⟨q,τ6⟩=>I.length-q) (fun⟨q,τ6⟩=>q≤I.length∧kM e.t0.length i (I.drop q)=W∧LI k e { d with ms:=ms } A5 τ6) [(0,?_),(3,?_),(4,?_),(5,?_),(6,?_),(7,?_),(35,?_),(36,?_),(37,?_),(98,?_),(99,?_)] (fun⟨q,τ6⟩=> [(100,zI q)]) (fun⟨q,τ6⟩=>τ6) ?_ ?_ ?_ ?_;rotate_left 11
          ·exact gF tI
          ·exact gT
          ·exact⟨Nat.zero_le _,hW,h6⟩
          intro x_ a2;obtain⟨q,τ6⟩:=x_;try dsimp only at a2⊢
          obtain⟨hq,hV,h7⟩:=a2;simp only[eZ];by_cases e2:q<I.length
          ·have e8:I[q]? =some I[q]:=getElem?_eq_getElem e2;rw[drop_eq_getElem_cons e2]at hV;have ck:((q:Int)<I.length)=True:=by simp;omega
           generalize I[q]=t at hV e8;simp only[kM]at hV;have wy:zW ((q:Int)+1)=q+1:=az (by omega) (by omega);refine gO (S:= [16]) bm (j3 @ck @e8 @Sg.aC) tI ?_;intro i11 cb;have h8:=h7.own (b:= .cells 49 (cF t).cells) cb;have b4:AS.le A5 (A5.set i11 (.cells 49 (cF t).cells)):=an (h7.mD cb) (lR _);have cs:=h8.MU t 2 i (by omega) (by omega) (by omega);simp only[Sg.aC,aR]at h8 b4 cs;have k4:(τ6.set i11 (.cells 49 [zI t.kind,zI t.index,zI t.bT,.sc (.bool t.ref)])) i11=some (.cells 49 [zI t.kind,zI t.index,zI t.bT,.sc (.bool t.ref)]):=AS.ak _ _ _;generalize (τ6.set i11 (.cells 49 [zI t.kind,zI t.index,zI t.bT,.sc (.bool t.ref)]))=τ8 at*;have h9:=h8.drop b4;rcases aw hV with⟨g5,hV⟩|⟨g5,hV⟩
           ·have a4:=RL.ok cs (v:=()) (by simp[bK,g5]);refine gO (S:= [16]) bm (j2 @k4 @wy) @a4 ?_;refine gB ((q+1,τ8)) gT ?_;try dsimp only
            exact⟨by omega,hV,h9⟩
           ·have a4:=RL.bad cs (e:=mF 5 2 i) (by simp[bK,g5]);rw[hV]at l;rw[←l]at g;refine gO (S:= [16]) bm (j2 @k4 @wy) @a4 ?_;refine ed ?_;intro τ9 n;exact iC g.symm (AS.le_trans (AS.le_trans be h9.le) n)
          ·have ck:((q:Int)<I.length)=False:=by simp;omega
           have db:I.drop q= []:=drop_eq_nil_iff.2 (by omega);rw[db]at hV;simp only[kM]at hV;rw[←hV]at l;simp only[cL]at l;have eg:=h7.le _ _ ca;have ei:=h7.le _ _ a6;have f5:=em.symm;refine gO (S:= [16]) bm @ck tI ?_;try apply aq.seq
           refine HV (α:=Unit) (fun _ =>True) (fun _ => [(0,.ptr k.id 0),(3,.ao 3 (F.map aS) .aI (decide (F= []))),(4,zI i),(5,uW [a,b,c,x,y,z]),(6,.ptr id6 0),(35,.ao 44 (e.t2.map uW) .aI (decide (e.t2= []))),(36,zI e.t2.length),(37,zI i)])
            (fun _ =>τ6.set id6 (.cells 53 [zS nm,zI o,zI b,.ao 49 (sg.ps.map cF) (.tok u) (decide (sg.ps= [])),zI sg.ret.kind,zI sg.ret.index,zI sg.ret.bT,.sc (.bool sg.ret.ref),.ai,zI c,.ai,.ai])) (fun _ _ =>rfl) ?_ ?_
           ·(((with_reducible apply dX 16 iU);refine dY mixed ?_);simp-implicitDefEqProofs [eg,ei,f5])
            all_goals
             refine fK.mk (()) (gF @mi) gT ?_;try dsimp only
           ·intro _ _;refine aq.Om id6 (m8 nm o b sg c .ai .ai .ai) (AS.ak _ _ _) rfl (fun j hj=> ?_) ?_
            ·match j with
             |0=>exact Wk.refl _
             |1=>exact Wk.refl _
             |2=>exact Wk.refl _
             |3=>simp[m8]
             |j+4=>exact Wk.refl _
            rw[AS.set_set];have h8:=(h7.wr (b:= .cells 53 (m8 nm o b sg c .ai .ai .ai)) a6).drop (kh be);have dn:∀v,AS.le B (B.set id6 v):=fun v=>an dp (lR _);have L:(B.set id6 (.cells 53 (m8 nm o b sg c .ai .ai .ai))) id6=some (.cells 53 (m8 nm o b sg c .ai .ai .ai)):=AS.ak _ _ _;generalize (τ6.set id6 (.cells 53 (m8 nm o b sg c .ai .ai .ai)))=τ7 at h8⊢;clear ca a6 eg ei h7 h6 be cd;have t6:=h8.le _ _ L;rw[Cm]at t6;have G:=h8.id;rw[cf]at G;simp only[cv]at G;rcases aw l with⟨c7,l⟩|⟨c7,l⟩;rotate_left
            ·have c7:¬z≤d.lo.length:=by simpa using c7
             rw[l]at g;refine gO bm (j3 @mi @G @c7) @bad ?_;exact iC g.symm (AS.le_trans (dn _) h8.le)
            have c7:z≤d.lo.length:=by simpa using c7
            refine gO (S:= [18]) bm (j3 @mi @G @c7) @hm ?_;have e3:∃ls,wY d.lo z=ls:=⟨_,rfl⟩;obtain⟨ls,c3⟩:=e3;rw[c3]at l;refine Wj (α:=Unit) (fun _ =>True) (fun _ => [(0,.ptr k.id 0),(3,.ao 3 (F.map aS) .aI (decide (F= []))),(4,zI i),(5,uW [a,b,c,x,y,z]),(6,.ptr id6 0),(35,.ao 44 (e.t2.map uW) .aI (decide (e.t2= []))),(36,zI e.t2.length),(37,zI i)])
             (fun _ =>τ7.set id6 (.cells 53 (m8 nm o b sg c (Sg.qo ls) .ai .ai))) ?_ ?_
            ·by_cases hz:0<z
             ·obtain⟨j,it⟩:∃j:Nat,z=(j+1:Nat):=⟨(z-1).toNat,by omega⟩;have hw:zW (z-1)=j:=by rw[show z-1=j by omega];exact az (by omega) (by omega)
              have b1:j<d.lo.length:=by omega
              have hg:d.lo[j]? =some d.lo[j]:=getElem?_eq_getElem b1;have c9:d.lo[j]=ls:=by rw[←c3];unfold wY;rw[if_pos hz,show(z-1).toNat=j by omega,getD_eq_getElem?_getD,hg];rfl
              have hK:=e4 _ (getElem_mem b1);have de:=fun σ=>HY d.lo[j] (by omega) σ;rw[c9]at de hg;simp only[Sg.qo]at de;have ek:¬id6=k.id:=fun e'=>by have:=h8.fr k.id (by simp);rw[←e']at this;simp at this
              have f4:¬k.id=id6:=fun e'=>ek e'.symm;repeat (first
               |refine g1 ?_
               |((first|refine g2 ?_ |((with_reducible apply dX 7 il);refine dY mixed ?_)|((with_reducible apply dX 16 iU);refine dY mixed ?_)|((with_reducible apply dX 17 lK);refine dY mixed ?_)|((with_reducible apply dX 19 lJ);refine dY mixed ?_)|((with_reducible apply dX 22 lI);refine dY mixed ?_)|((with_reducible apply ag.id);first|apply ag.ay (de _)));simp-implicitDefEqProofs [mi,G,hz,hw,c9,b1,t6,Sg.qo])
               |(refine g3 ?_;try simp-implicitDefEqProofs [mi,G,hz,hw,hg,c9,b1,t6,ek,f4,Sg.qo]))
              refine fK.mk (()) (gF @mi) (by(try dsimp only);exact le_eq (by simp[m8])) ?_;try dsimp only
             ·have gS:ls= []:=by rw[←c3];unfold wY;rw[if_neg hz]
              refine aq.Om id6 (m8 nm o b sg c (Sg.qo ls) .ai .ai) t6 rfl (fun j hj=> ?_) ?_
              ·match j with
               |0=>exact Wk.refl _
               |1=>exact Wk.refl _
               |2=>exact Wk.refl _
               |3=>exact Wk.refl _
               |4=>exact Wk.refl _
               |5=>exact Wk.refl _
               |6=>exact Wk.refl _
               |7=>exact Wk.refl _
               |8=>simp[m8,Sg.qo,gS]
               |j+9=>exact Wk.refl _
              refine gO bm (j2 @mi @hz) tI ?_;refine fK.mk (()) (gF @mi) gT ?_;try dsimp only
            ·intro _ _;have h9:=h8.wr (b:= .cells 53 (m8 nm o b sg c (Sg.qo ls) .ai .ai)) L;rw[AS.set_set]at h9;generalize (τ7.set id6 (.cells 53 (m8 nm o b sg c (Sg.qo ls) .ai .ai)))=τ8 at h9⊢;clear L t6 G h8;have L:(B.set id6 (.cells 53 (m8 nm o b sg c (Sg.qo ls) .ai .ai))) id6=some (.cells 53 (m8 nm o b sg c (Sg.qo ls) .ai .ai)):=AS.ak _ _ _;have t6:=h9.le _ _ L;refine aq.seq ?_;refine Sg.xC (α:=(List cE×List Cl)×AS) (fun v=>kx e d.sp d.lo F (ms++ [⟨nm,o,b,sg.ps,decide (sg.ps= []),sg.ret,ls,decide (ls= []),c,v.1.1,decide (v.1.1= []),v.1.2,decide (v.1.2= [])⟩]) (i+1) (e.t2.drop (i+1))=Y∧
              LI k e { d with ms:=ms } (B.set id6 (.cells 53 (m8 nm o b sg c (Sg.qo ls) (.ao 110 (v.1.1.map aJ) .aI (decide (v.1.1= []))) (.ao 158 (v.1.2.map fY) .aI (decide (v.1.2= [])))))) v.2)
              (fun _ => [(0,.ptr k.id 0),(3,.ao 3 (F.map aS) .aI (decide (F= []))),(6,.ptr id6 0),(35,.ao 44 (e.t2.map uW) .aI (decide (e.t2= []))),(36,zI e.t2.length),(37,zI i)]) (fun v=>v.2) ?_ ?_
             ·by_cases a9:0<a
              ·have hw:zW (a-1)=a-1:=az (by omega) (by omega);have e9:=h9.code (a-1) i id6 (by omega) ge _ _ _ _ _ _ _ _ _ _ L B (dn _) dp;unfold pO at l;rw[if_pos a9]at l;rcases aG l with⟨cc,hC,l⟩|⟨f,hC,l⟩
               ·have dl:=RL.ok e9 hC;refine gO bm (j3 @mi @a9 @hw) tI ?_;refine ag.of dl ?_ (fun _ _ h=>h.elim);rintro r τ9 ⟨rfl,n⟩;rw[AS.set_set]at n;simp-implicitDefEqProofs;refine fK.mk ((cc,τ9)) (gF tI) gT ?_;try dsimp only
                exact⟨l,n⟩
               ·have dl:=RL.bad e9 hC;rw[l]at g;refine gO bm (j3 @mi @a9 @hw) @dl ?_;refine ed ?_;intro τ9 l9;exact iC g.symm l9
              ·unfold pO at l;rw[if_neg a9]at l;simp only[cL]at l;refine aq.Om id6 (m8 nm o b sg c (Sg.qo ls) (.ao 110 (([]:List cE).map aJ) .aI (decide (([]:List cE)= []))) (.ao 158 (([]:List Cl).map fY) .aI (decide (([]:List Cl)= [])))) t6 rfl (fun j hj=> ?_) ?_
               ·match j with
                |0=>exact Wk.refl _
                |1=>exact Wk.refl _
                |2=>exact Wk.refl _
                |3=>exact Wk.refl _
                |4=>exact Wk.refl _
                |5=>exact Wk.refl _
                |6=>exact Wk.refl _
                |7=>exact Wk.refl _
                |8=>exact Wk.refl _
                |9=>exact Wk.refl _
                |10=>simp[m8]
                |11=>simp[m8]
                |j+12=>exact Wk.refl _
               have n:=h9.wr (b:= .cells 53 (m8 nm o b sg c (Sg.qo ls) (.ao 110 (([]:List cE).map aJ) .aI (decide (([]:List cE)= []))) (.ao 158 (([]:List Cl).map fY) .aI (decide (([]:List Cl)= []))))) L;rw[AS.set_set]at n;refine gO bm (j2 @mi @a9) tI ?_;refine fK.mk ((([],[]),τ8.set id6 (.cells 53 (m8 nm o b sg c (Sg.qo ls) (.ao 110 (([]:List cE).map aJ) .aI (decide (([]:List cE)= []))) (.ao 158 (([]:List Cl).map fY) .aI (decide (([]:List Cl)= []))))))) (gF tI) gT ?_;try dsimp only
               exact⟨l,n⟩
             ·rintro⟨cc,τ9⟩ ⟨l,n⟩;simp only at l n⊢;have t6:=n.le _ _ (AS.ak _ _ _);have hk:=n.WG ⟨nm,o,b,sg.ps,decide (sg.ps= []),sg.ret,ls,decide (ls= []),c,cc.1,decide (cc.1= []),cc.2,decide (cc.2= [])⟩;have ac:=n.id;have hF:=n.tM;have cj:=n.ne.2.2.2.1;have f6:=cj.symm;have m0:¬id6=k.id:=fun e'=>by have:=n.fr k.id (by simp);rw[←e']at this;simp at this
              have m4:¬id6=k.tM:=fun e'=>by have:=n.fr k.tM (by simp);rw[←e']at this;simp at this
              have f8:¬k.id=id6:=fun e'=>m0 e'.symm;have f7:¬k.tM=id6:=fun e'=>m4 e'.symm;have ip:ms.length≤70000:=by omega
              rw[cf]at ac;rw[Cm]at t6;simp only[cv]at ac hF;repeat (first
               |refine g1 ?_
               |((first|refine g2 ?_ |((with_reducible apply dX 7 il);refine dY mixed ?_)|((with_reducible apply dX 16 iU);refine dY mixed ?_)|((with_reducible apply dX 17 lK);refine dY mixed ?_)|((with_reducible apply dX 19 lJ);refine dY mixed ?_)|((with_reducible apply dX 22 lI);refine dY mixed ?_));simp-implicitDefEqProofs [t6,ac,hF,cj,wi,Sg.qo])
               |(refine g3 ?_;try simp-implicitDefEqProofs [t6,ac,hF,cj,f6,m0,f8,m4,f7,wi,Sg.qo]))
              refine gB ((i+1,ms++ [⟨nm,o,b,sg.ps,decide (sg.ps= []),sg.ret,ls,decide (ls= []),c,cc.1,decide (cc.1= []),cc.2,decide (cc.2= [])⟩],(τ9.set k.tM (.tok (ms.length+1))).set k.id (.cells 108 (Dy k e { d with ms:=ms++ [⟨nm,o,b,sg.ps,decide (sg.ps= []),sg.ret,ls,decide (ls= []),c,cc.1,decide (cc.1= []),cc.2,decide (cc.2= [])⟩] } 0)))) (by(try dsimp only);exact le_eq (by rw[cf];simp[bw,cv])) ?_;try dsimp only
              exact⟨by omega,by simp[gt],l,hk.drop (dn _)⟩
         ·rw[l]at g;refine gO bm (j4 @t7 @t6 @hand @c6) (j2 @hm @bad) ?_;exact iC g.symm cd
        ·have c5:¬b9 (dy bb)=0:=by simpa using c5
         rw[l]at g;generalize iX (dy bb)=sg at b2;simp only[Sg.LM,Sg.qo]at b2;refine gO bm @mi (j2 @a8 @b2) ?_;intro E V;refine gO bm @c5 @bad ?_;exact iC g.symm (AS.le_trans (AS.le_trans J h3.le) (an V (lR _)))
       ·have a8:=RL.bad fa b3;rw[l]at g;refine gO bm @mi @a8 ?_;refine ed ?_;intro τ5 h5;exact iC g.symm (AS.le_trans (AS.le_trans J h3.le) h5)
     ·have T:=RL.bad e1 hN;rw[l]at g;refine gO (S:= [7]) bm (j5 hI @M @mi @H @c2) @hm ?_;try apply aq.seq
      have Q:=fun j x' (hj:τ1 j=none)=>RL.bad ((h2.own (b:=x') hj).name x am.1 am.2) hN
      (((with_reducible apply dX 7 il);refine dY mixed ?_);simp-implicitDefEqProofs [a7,a5,aF])
      repeat' (first
       |(with_reducible apply j2)
       |(intro id6 ab;try simp-implicitDefEqProofs [O,a7,a5,mi,aF])
       |(refine ag.DG T ?_;intro τ2 h3;try simp-implicitDefEqProofs)
       |(refine ag.DG (Q _ _ (by assumption)) ?_;intro τ2 h3;try simp-implicitDefEqProofs))
      all_goals first
       |exact iC g.symm (AS.le_trans h2.le h3)
       |exact iC g.symm (AS.le_trans (AS.le_trans h2.le (an (by assumption) (lR _))) h3)
    ·rw[l]at g;by_cases H:b≤31
     ·have c2:¬c≤12:=by intro hh;simp[H,hh]at c0
      refine gO bm (j5 hI @M @mi @H @c2) @bad ?_;exact iC g.symm h2.le
     ·refine gO bm (j4 hI @M @mi @H) @bad ?_;exact iC g.symm h2.le
   ·have hI:((i:Int)<e.t2.length)=False:=by simp;omega
    have db:e.t2.drop i= []:=drop_eq_nil_iff.2 (by omega);rw[db]at l;simp only[kx]at l;rw[←l]at g;refine gO bm hI tI ?_;exact⟨.bI [],τ1,Wk.refl _,lR _,ms,g.symm,rfl,h2⟩
  ·have a3:=RL.bad cl hO;refine gO bm tI @a3 ?_;refine ed ?_;intro τ2 h2;exact iC g (AS.le_trans h.le h2)
def fN (S:List Nat):bH prog [(6,(.S 0 (.S 1 (.S 2 (.S 3 (.S 5 (.S 6 (.S 7 (.S 8 (.R 4 (.R 9 (.R 10 (.S 11 .D)))))))))))))] S:=mixed
variable {k:LK} {e:LE} {d:LD} {B τ:AS}
theorem aq.KJ {P:Program}{n:Nat}{ds:List Deferred}{Q:AQ}{s:Fr}{σ S:AS}{c:Code}(i j:Nat) {e ty:TypeId}{es:List AV}{v:AV}{cs2:List AV}(O:GV P e es v S σ) (y:S i=some (.cells ty cs2)) (K:cs2[j]? =some v)
 (h:∀nl,(nl=true→es= [])→aq P n ds c Q s (S.set i (.cells ty (cs2.set j (.ao e es .aI nl))))):aq P n ds c Q s σ:=by
 have q:j<cs2.length:=(List.getElem?_eq_some_iff.1 K).1;have u:cs2.getD j .any=v:=by rw[List.getD_eq_getElem?_getD,K];rfl
 intro G0 G a w h1 g;rcases O with⟨rfl,E,rfl⟩|⟨id,cap,M,h0,E,rfl,I,L⟩
 ·obtain⟨b,vs,g1,g2,g3,J⟩:=g.inv.cells i ty cs2 y;have o:=g.inv.s8 (cs':=cs2.set j (.ao e [] .aI true)) y g1 g2 (by simp) (fun k H=>by
   rw[List.length_set]at H;have:=(J k (by omega)).1;by_cases l:k=j
   ·subst l;rw[u,E]at this;rw[List.getD_eq_getElem?_getD,List.getElem?_set_self q];generalize vs.getD k undef=x at this⊢;cases this;exact .iP trivial
   ·rw[List.getD_eq_getElem?_getD,List.getElem?_set_ne (fun e=>l e.symm),←List.getD_eq_getElem?_getD];exact this)
  exact h true (fun _ =>rfl) G0 G a w h1 ⟨o,g.size,g.ds,g.rep⟩
 ·have F:i≠id:=nq h0 y;obtain⟨G',hle,T,conv⟩:=g.inv.sr h0 I;obtain⟨b,vs,g1,g2,g3,J⟩:=g.inv.cells i ty cs2 (by rw[AS.ae _ _ F];exact y);have o:=T.s8 (cs':=cs2.set j (.ao e es .aI false)) y (hle.inj _ _ g1) g2 (by simp) (fun k H=>by
   rw[List.length_set]at H;have:=(J k (by omega)).1;by_cases l:k=j
   ·subst l;rw[u,E]at this;rw[List.getD_eq_getElem?_getD,List.getElem?_set_self q];have:=conv 0 es.length cap _ (by simp) (by omega) (by rw[Nat.zero_mul];exact this)
    simpa using this
   ·rw[List.getD_eq_getElem?_getD,List.getElem?_set_ne (fun e=>l e.symm),←List.getD_eq_getElem?_getD];exact this.mono hle)
  exact h false (fun V=>by cases V) G0 G' a w (h1.trans hle) ⟨o,g.size,g.ds,fun j=>(g.rep j).mono hle⟩
def LI.gv {A S:AS}{es:List AV}{v:AV}(E:GV prog 46 es v S τ) (h:LI k e d A S):
 ∃w,AS.le A w∧LI k e d w τ∧ ∀l g,LI k e l w g→ ∃n,GV prog 46 es v n g∧LI k e l A n:=by
 rcases E with⟨h1,F,rfl⟩|⟨id,cap,i,h0,y,rfl,o,j⟩
 ·exact⟨A,lR _,h,fun l g u=>⟨g,.inl ⟨h1,F,rfl⟩,u⟩⟩
 ·have q:=h.mD h0;refine⟨A.set id (.cells 46 (aB (es++i))),an q (lR _),h.own h0,fun l g u=> ?_⟩;obtain⟨n,s1,s2,s3⟩:=u.erase (AS.ak _ _ _) (an q (lR _)) q;exact⟨n,.inr ⟨id,cap,i,s1,y,s2,o,j⟩,s3⟩
def Gu {e:LE}{u:Unit}(h:nK 0 (u0 e)= .ok u):e.t0.length≤32∧e.t1.length≤64∧e.t2.length≤64∧e.t3.length≤128∧e.t4.length≤16383∧e.t5.length≤64:=by
 simp only[u0,nK]at h;rcases aw h with⟨c0,h⟩|⟨_,h⟩;rotate_left
 ·cases h
 rcases aw h with⟨n,h⟩|⟨_,h⟩;rotate_left
 ·cases h
 rcases aw h with⟨l,h⟩|⟨_,h⟩;rotate_left
 ·cases h
 rcases aw h with⟨j,h⟩|⟨_,h⟩;rotate_left
 ·cases h
 rcases aw h with⟨i,h⟩|⟨_,h⟩;rotate_left
 ·cases h
 rcases aw h with⟨g,h⟩|⟨_,h⟩;rotate_left
 ·cases h
 simp only[decide_eq_true_eq]at c0 n l j i g;omega
def uC {b:zY}{nt:Int} :∀ {rs:List (List Int)}{acc:List Ty}{i:Nat}{out:List Ty},eK b nt acc i rs= .ok out→out.length=acc.length+rs.length
 |[],acc,i,out,h=>by simp only[eK]at h;cases h;simp
 |r::rs,acc,i,out,h=>by
  simp only[eK]at h;rcases aG h with⟨x,_,h⟩|⟨f,_,h⟩;rotate_left
  ·cases h
  rcases aw h with⟨_,h⟩|⟨_,h⟩;rotate_left
  ·cases h
  rcases aw h with⟨_,h⟩|⟨_,h⟩;rotate_left
  ·cases h
  have:=uC h;simp at this⊢;omega
def wZ {b:zY}{nt:Int} :∀ {rs:List (List Int)}{acc:List (List Ty)}{i:Nat}{out:List (List Ty)},gZ b nt acc i rs= .ok out→(∀x∈acc,x.length≤12)→out.length=acc.length+rs.length∧ ∀x∈out,x.length≤12
 |[],acc,i,out,h,ha=>by simp only[gZ]at h;cases h;exact⟨by simp,ha⟩
 |r::rs,acc,i,out,h,ha=>by
  simp only[gZ]at h;rcases aG h with⟨x,_,h⟩|⟨f,_,h⟩;rotate_left
  ·cases h
  rcases aw h with⟨_,h⟩|⟨_,h⟩;rotate_left
  ·cases h
  rcases aG h with⟨_,_,h⟩|⟨_,_,h⟩;rotate_left
  ·cases h
  have:=wZ h (fun y g=>by
   rcases mem_append.1 g with g|g
   ·exact ha y g
   ·rw[mem_singleton.1 g];exact Cv x)
  simp at this⊢;exact⟨by omega,this.2⟩
def tH {b:zY}{nt:Int} :∀ {rs:List (List Int)}{acc:List TD}{i:Nat}{out:List TD},jE b nt acc i rs= .ok out→out.length=acc.length+rs.length
 |[],acc,i,out,h=>by simp only[jE]at h;cases h;simp
 |r::rs,acc,i,out,h=>by
  simp only[jE]at h;rcases aG h with⟨x,_,h⟩|⟨f,_,h⟩;rotate_left
  ·cases h
  have:=tH h;simp at this⊢;omega
def uE {nt:Int} :∀ {rs:List (List Int)}{acc:List TD}{i:Nat}{out:List TD},dk nt acc i rs= .ok out→out.length=acc.length
 |[],acc,i,out,h=>by simp only[dk]at h;cases h;rfl
 |r::rs,acc,i,out,h=>by
  simp only[dk]at h;rcases aw h with⟨_,h⟩|⟨_,h⟩;rotate_left
  ·cases h
  split at h
  ·cases h
  ·rcases aw h with⟨_,h⟩|⟨_,h⟩;rotate_left
   ·cases h
   have:=uE h;simpa using this
def uB {e:LE}{ts:List TD}(h:ki e= .ok ts):ts.length=e.t0.length:=by
 unfold ki at h;rcases aG h with⟨x,h1,h⟩|⟨f,_,h⟩
 ·rw[uE h,tH h1];simp
 ·cases h
def Em {e:LE}{v:List Ty×List (List Ty)}(h:oE e= .ok v):v.1.length=e.t4.length∧v.2.length=e.t5.length∧ ∀x∈v.2,x.length≤12:=by
 unfold oE at h;rcases aG h with⟨sp,h1,h⟩|⟨f,_,h⟩;rotate_left
 ·cases h
 rcases aG h with⟨lo,j,h⟩|⟨f,_,h⟩;rotate_left
 ·cases h
 cases h;have i:=uC h1;have g:=wZ j (by simp);simp at i g;exact⟨i,g⟩
def WR (g:bY) (B:AS) (r:AV) (h:AS):Prop:= ∃nl,(nl=true→g.ts= [])∧ah (mr { g with tn:=nl }) B r h
def LI.image (h:LI k e d B τ) (h1:d.sp= []) (h2:d.lo= []) (h3:d.ty= .ai) (h4:d.fs= []) (h5:d.ms= []):
 ad prog 47 [.ptr k.id 0] τ (RL (pN e) (fun g=>WR g B)) (TL (pN e) B):=by
 obtain⟨X,H⟩:∃X,pN e=X:=⟨_,rfl⟩;rw[H];unfold pN at H;have iC:∀ {f V},X= .error f→AS.le B V→ ∃σ',AS.le σ' V∧TL X B (pQ f) σ':=fun {f V} hx hle=>⟨V,lR _,_,hx,rfl,hle⟩;have cc:=h.e.en;have am:zW (e.en-1)=e.en-1:=az (by omega) (by omega);have cd:=h.e.t2.1;refine ad.ob func47 ?_;refine gO fN tI tI ?_;intro j o;have J:=h.own (b:= .cells 26 [.ai,.ai,.ai,zI 0]) o;have kA:(B.set j (.cells 26 [.ai,.ai,.ai,zI 0])) j=some (.cells 26 [.ai,.ai,.ai,zI 0]):=AS.ak _ _ _;have O:B j=none:=h.mD o;have l:AS.le B (B.set j (.cells 26 [.ai,.ai,.ai,zI 0])):=an O (lR _);generalize (B.set j (.cells 26 [.ai,.ai,.ai,zI 0]))=A at*;generalize (τ.set j (.cells 26 [.ai,.ai,.ai,zI 0]))=τ1 at*;clear o h;rcases aG H with⟨u,hC,i⟩|⟨f,hC,i⟩;rotate_left
 ·have hc:=RL.bad J.counts hC;refine gO fN tI @hc ?_;refine ed ?_;intro τ2 l2;exact iC i (AS.le_trans (AS.le_trans l J.le) l2)
 have hc:=RL.ok J.counts hC;have M:=Gu hC;rcases aG i with⟨⟨sp,lo⟩,hS,i⟩|⟨f,hS,i⟩;rotate_left
 ·have hs:=RL.bad (J.signatures h1 h2 J.le) hS;refine gO fN tI (j2 @hc @hs) ?_;refine ed ?_;intro τ2 l2;exact iC i (AS.le_trans l l2)
 have hs:=RL.ok (J.signatures h1 h2 J.le) hS;have F:=Em hS;simp only at F i;refine gO fN tI @hc ?_;refine ag.of hs ?_ (fun _ _ h=>h.elim);rintro r τ2 ⟨rfl,T⟩;simp-implicitDefEqProofs;rcases aG i with⟨ts,hT,i⟩|⟨f,hT,i⟩;rotate_left
 ·have ht:=RL.bad (T.types h3 M.1) hT;refine gO fN tI @ht ?_;refine ed ?_;intro τ3 l3;exact iC i (AS.le_trans l l3)
 have ht:=RL.ok (T.types h3 M.1) hT;have ar:=uB hT;refine gO fN tI tI ?_;refine ag.of ht ?_ (fun _ _ h=>h.elim);rintro r τ3 ⟨rfl,v,S,hG,a7⟩;simp-implicitDefEqProofs;have w:∀(σ:AS) (K:AV→Prop),jz prog σ 22 v K=K (zI e.t0.length):=fun σ K=>by rw[Cd.KF hG underlying22 σ K,length_map,ar]
 obtain⟨A',a5,Q,G⟩:=a7.gv hG;have E:AS.le B A':=AS.le_trans l a5;rcases aG i with⟨fs,hF,i⟩|⟨f,hF,i⟩;rotate_left
 ·have hf:=RL.bad (Q.fields h4 _ rfl w) hF;refine gO fN tI @hf ?_;refine ed ?_;intro τ4 l4;exact iC i (AS.le_trans E l4)
 have hf:=RL.ok (Q.fields h4 _ rfl w) hF;refine gO fN tI tI ?_;refine ag.of hf ?_ (fun _ _ h=>h.elim);rintro r τ4 ⟨rfl,P⟩;simp-implicitDefEqProofs;rcases aG i with⟨ms,hM,i⟩|⟨f,hM,i⟩;rotate_left
 ·have hm:=RL.bad (P.methods h5 (by simp only;omega) (by simp only;omega) F.2.2 _ rfl w) hM;refine gO fN tI @hm ?_;refine ed ?_;intro τ5 l5;exact iC i (AS.le_trans E l5)
 have hm:=RL.ok (P.methods h5 (by simp only;omega) (by simp only;omega) F.2.2 _ rfl w) hM;refine gO fN tI tI ?_;refine ag.of hm ?_ (fun _ _ h=>h.elim);rintro r τ5 ⟨rfl,a6⟩;obtain⟨S',a3,y⟩:=G _ _ a6;simp-implicitDefEqProofs;refine aq.KJ k.id 8 a3 y.id rfl ?_;intro nl a0;have I:=y.Oy (.ao 46 (ts.map nA) .aI nl);have Y:=I.le _ _ kA;have q:=I.id;have n1:¬k.id=j:=by rintro e';have:=y.fr k.id (by simp);rw[e',kA]at this;cases this
 have n2:¬j=k.id:=fun e'=>n1 e'.symm;have hle:AS.le B (S'.set k.id (.cells 108 (Dy k e { d with sp:=sp,lo:=lo,ty:= .ao 46 (ts.map nA) .aI nl,fs:=fs,ms:=ms } 0))):=AS.le_trans l I.le;rw[cf]at q hle Y;simp only[cv]at q hle Y;rw[cf];simp only[cv,set_cons_succ,set_cons_zero];generalize (S'.set k.id _)=τ6 at q hle Y⊢;by_cases L:(ms.length:Int)<e.en
 ·rw[if_pos L]at i;have a1:=fun σ=>qG 5 5 393216 σ;have n:((ms.length:Int)<e.en)=True:=by simp;omega
  refine gO fN (j2 @q n) @a1 ?_;exact iC i.symm hle
 ·rw[if_neg L]at i;have n:((ms.length:Int)<e.en)=False:=by simp;omega
  refine gO fN (j5 @q n @am @Y @n2) tI ?_;refine⟨mr ⟨ts,nl,fs,decide (fs= []),ms,decide (ms= []),e.en-1⟩,B,St.mL (Wk.refl _) (by simp) (by simp) (Wk.refl _),?_,_,i.symm,nl,by simpa using a0,rfl,rfl⟩;refine AS.aj (AS.aj hle ?_) O;exact y.drop l|>.fr _ (by simp)
end Im
end Go.Proofs.YtknalmoackcpbaaGreat
namespace Go.Proofs.YtknalmoackcpbaaGreat
namespace St
def OQ (s:Nat→zY) (k:Nat):zY:=aX (mh s k) 4++aX (s k).length 4++tg k
def AG (s:Nat→zY) (k:Nat):uI s (k+1)=uI s k++OQ s k:=by simp[uI,OQ]
def NG (s:Nat→zY) (k:Nat):(OQ s k).length=12:=by simp[OQ,aA,DH]
def Nn (s:Nat→zY):∀(j k:Nat) (R:zY),k<j→At (uI s j++R) (8+12*k) (OQ s k):=by
 intro j;induction j with
 |zero=>intro k R h;omega
 |succ j g=>
  intro k R h;by_cases e:k=j
  ·subst e;have:=At.ba (uI s k) (OQ s k) R;rwa [←AG,sk]at this
  ·rw[AG,append_assoc];exact g k _ (by omega)
def Ql (s:Nat→zY):∀(j:Nat) (R:zY),At (uI s j++R) 0 [67,71,82,68,1,0,4,0]:=by
 intro j;induction j with
 |zero=>intro R;exact At.ba [] _ R
 |succ j g=>intro R;rw[AG,append_assoc];exact g _
def NT (s:Nat→zY) (H:zY):∀(j k:Nat) (R:zY),k<j→At (H++(jY s j++R)) (H.length+((jY s k).length+pad (jY s k).length)) (s k):=by
 intro j;induction j with
 |zero=>intro k R h;omega
 |succ j g=>
  intro k R h;by_cases e:k=j
  ·subst e;have:=At.ba (H++(jY s k++List.replicate (pad (jY s k).length) 0)) (s k) R;simp only[length_append,length_replicate]at this;simpa[jY]using this
  ·have:=g k (List.replicate (pad (jY s j).length) 0++s j++R) (by omega);simpa[jY]using this
def B7 (s:Nat→zY) (k:Nat):mh s k+(s k).length≤mh s (k+1):=by simp only[mh,jY,length_append,length_replicate];omega
def MP (s:Nat→zY) (k:Nat):mh s k%4=0:=by have:=PU (jY s k).length;unfold mh;omega
def JZ {b:zY}{a:Nat}{x:Nat}(h:At b a (aX x 4)) (g:x<4294967296):aY (cu b (a:Int) 4)=x:=by have:=(At.num (n:=4) h (by omega) (by(have e:(256:Int)^4=4294967296:=by decide);omega)).2;simpa using this
def z6 {b:zY}{a n:Nat}{t:zY}(h:At b a t) (g:t.length=n):cu b (a:Int) (n:Int)=t:=by rw[mO,←g];exact h.2
def Mb {t:zY}{j:Nat}(g:j<4):tg j=t↔nY t=j:=by
 constructor
 ·rintro rfl
  match j,g with
  |0,_ =>decide
  |1,_ =>decide
  |2,_ =>decide
  |3,_ =>decide
 ·intro h;unfold nY at h;split at h
  ·rename_i ht;obtain rfl:j=0:=by omega
   exact ht.symm
  split at h
  ·rename_i ht;obtain rfl:j=1:=by omega
   exact ht.symm
  split at h
  ·rename_i ht;obtain rfl:j=2:=by omega
   exact ht.symm
  split at h
  ·rename_i ht;obtain rfl:j=3:=by omega
   exact ht.symm
  ·omega
def L9 {k:Nat}(g:k<4):nY (tg k)=k:=(Mb g).1 rfl
structure vg (s:Nat→zY) (b:zY):Prop where
 hd:At b 0 [67,71,82,68,1,0,4,0]
 en:∀k,k<4→At b (8+12*k) (OQ s k)
 lo:∀k,k<4→(s k).length≤65536
 Xt:b.length≤65536
def vg.PK {s:Nat→zY}{b:zY}(h:vg s b) {k:Nat}(g:k≤4):mh s k<400000:=by have h1:=A6 (s:=s) (k:=k) (N:=65536) (fun j i=>h.lo j (by omega));have l:=Ah (jY s k).length;unfold mh;omega
def vg.entry {s:Nat→zY}{b:zY}(h:vg s b) {k:Nat}(g:k<4):
 aY (cu b ((8+12*k:Nat):Int) 4)=mh s k∧aY (cu b (((8+12*k:Nat):Int)+4) 4)=(s k).length∧nY (cu b (((8+12*k:Nat):Int)+8) 4)=k:=by
 have h1:=h.en k g;unfold OQ at h1;rw[At.app,At.app]at h1;obtain⟨⟨h1,j⟩,i⟩:=h1;simp only[length_append,aA]at j i;have o:=h.PK (k:=k) (by omega);have l:=h.lo k g;refine⟨JZ h1 (by omega),?_,?_⟩
 ·rw[show(((8+12*k:Nat):Int)+4)=((8+12*k+4:Nat):Int) by omega];exact JZ j (by omega)
 ·rw[show(((8+12*k:Nat):Int)+8)=((8+12*k+(4+4):Nat):Int) by omega];have:=z6 (n:=4) i (DH k);rw[show(4:Int)=((4:Nat):Int) from rfl,this,L9 g]
def sp (s:Nat→zY) (k:Nat):Int×Int×Int:=((k:Int),(mh s k:Int),(mh s k:Int)+(s k).length)
def vg.RA {s:Nat→zY}{b:zY}(h:vg s b) {k:Nat}(v:k<4) {M:List (Int×Int×Int)}(o:∀x∈M,∃j,j<k∧x=sp s j):
 nX b.length M k (mh s k) ((mh s k:Int)+(s k).length)=if (b.length:Int)<(mh s k:Int)+(s k).length then 1 else 0:=by
 have mono:∀j,j<k→mh s j+(s j).length≤mh s k:=by
  intro j n;obtain⟨d,rfl⟩:∃d,k=j+1+d:=⟨k-(j+1),by omega⟩;clear o v;induction d with
  |zero=>exact B7 s j
  |succ d u=>
   have h1:=u (by omega);have E:=B7 s (j+1+d);have:j+1+(d+1)=j+1+d+1:=by omega
   rw[this];omega
 have y:56≤mh s k:=by unfold mh;omega
 have w:=MP s k;unfold nX;rw[if_neg,if_neg]
 ·by_cases g:(b.length:Int)<(mh s k:Int)+(s k).length
  ·rw[if_pos g,if_pos g]
  ·rw[if_neg g,if_neg g,if_neg];rw[any_eq_true];rintro⟨x,i,l⟩;obtain⟨j,n,rfl⟩:=o x i;have:=mono j n;have q:(mh s k:Int)<(mh s j:Int)+(s j).length∧(mh s j:Int)<(mh s k:Int)+(s k).length∧(mh s k:Int)<(mh s k:Int)+(s k).length∧(mh s j:Int)<(mh s j:Int)+(s j).length:=of_decide_eq_true l;omega
 ·omega
 ·rintro(h|h)
  ·omega
  ·rw[any_eq_true]at h;obtain⟨x,i,he⟩:=h;obtain⟨j,n,rfl⟩:=o x i;simp[sp]at he;omega
def vg.step {s:Nat→zY}{b:zY}(h:vg s b) {k:Nat}(g:k<4) {M:List (Int×Int×Int)}(i:∀x∈M,∃j,j<k∧x=sp s j) (ha:At b (mh s k) (s k)) (m:Nat) (o:qX):
 eO b (m+1) (8+12*k) M o=eO b m (8+12*(k+1)) (M++ [sp s k]) (o.set k (s k,false)):=by
 obtain⟨q,n,l⟩:=h.entry g;have hw:=h.RA g i;have hl:=ha.len;rw[if_neg (by omega)]at hw;rw[eO,q,n,l,if_pos hw,show cu b (mh s k:Int) ((s k).length:Int)=s k from z6 ha rfl];rfl
def vg.start {s:Nat→zY}{b:zY}(h:vg s b):cZ b=eO b 4 8 [] E4:=by
 have h1:=(h.en 3 (by omega)).len;rw[NG]at h1;have hd:=h.hd;rw[show([67,71,82,68,1,0,4,0]:zY)= [67,71,82,68]++([1,0]++ [4,0]) from rfl,At.app,At.app]at hd;obtain⟨d1,d2,d3⟩:=hd;have t1:b.take 4=LJ:=d1.take.symm;have i:cu b 4 2= [1,0]:=by simpa using z6 (n:=2) d2 rfl
 have g:cu b 6 2= [4,0]:=by simpa using z6 (n:=2) d3 rfl
 have t2:aY (cu b 4 2)=1:=by rw[i];rfl
 have t3:aY (cu b 6 2)=4:=by rw[g];rfl
 have j:=h.Xt;rw[cZ,if_neg (by omega),if_neg (by omega),if_neg (by simpa using t1),if_neg (by simpa using t2),if_neg (by simpa using t3)]
def MV (s:Nat→zY):qX:= [(s 0,false),(s 1,false),(s 2,false),(s 3,false)]
def Yh (s:Nat→zY):∀x∈ [sp s 0],∃j,j<1∧x=sp s j:=by intro x g;rcases mem_singleton.1 g with rfl;exact⟨0,by omega,rfl⟩
def Yg (s:Nat→zY):∀x∈ [sp s 0,sp s 1],∃j,j<2∧x=sp s j:=by
 intro x g;rcases mem_cons.1 g with rfl|g
 ·exact⟨0,by omega,rfl⟩
 ·rcases mem_singleton.1 g with rfl;exact⟨1,by omega,rfl⟩
def Yf (s:Nat→zY):∀x∈ [sp s 0,sp s 1,sp s 2],∃j,j<3∧x=sp s j:=by
 intro x g;rcases mem_cons.1 g with rfl|g
 ·exact⟨0,by omega,rfl⟩
 ·rcases mem_cons.1 g with rfl|g
  ·exact⟨1,by omega,rfl⟩
  ·rcases mem_singleton.1 g with rfl;exact⟨2,by omega,rfl⟩
def I1 {s:Nat→zY}{b:zY}(h:vg s b) (ha:∀k,k<4→At b (mh s k) (s k)):cZ b=(MV s,0,0):=by rw[h.start];have g:=h.step (k:=0) (by omega) (M:= []) (by simp) (ha 0 (by omega)) 3 E4;have s1:=h.step (k:=1) (by omega) (M:= [sp s 0]) (Yh s) (ha 1 (by omega)) 2 (E4.set 0 (s 0,false));have s2:=h.step (k:=2) (by omega) (M:= [sp s 0,sp s 1]) (Yg s) (ha 2 (by omega)) 1 ((E4.set 0 (s 0,false)).set 1 (s 1,false));have s3:=h.step (k:=3) (by omega) (M:= [sp s 0,sp s 1,sp s 2]) (Yf s) (ha 3 (by omega)) 0 (((E4.set 0 (s 0,false)).set 1 (s 1,false)).set 2 (s 2,false));exact g.trans (s1.trans (s2.trans s3))
def En {s:Nat→zY}(g:∀k,k<4→(s k).length≤65536) (i:(jg s).length≤65536):vg s (jg s) where
 hd:=Ql s 4 _
 en:=fun k h=>Nn s 4 k _ h
 lo:=g
 Xt:=i
def Kq {s:Nat→zY}{k:Nat}(g:k<4):At (jg s) (mh s k) (s k):=by have:=NT s (uI s 4) 4 k [] g;rw[sk,append_nil]at this;rw[jg,mh];rwa [show 8+12*4+((jY s k).length+pad (jY s k).length)=56+(jY s k).length+pad (jY s k).length by omega]at this
def DL {s:Nat→zY}(g:∀k,k<4→(s k).length≤65536) (i:(jg s).length≤65536):cZ (jg s)=(MV s,0,0):=I1 (En g i) fun k h=>Kq h
def BJ {b:zY} :∀ {m a:Nat}{M:List (Int×Int×Int)}{o:qX},o.length=4→(eO b m a M o).1.length=4:=by
 intro m;induction m with
 |zero=>intro a M o h;simpa[eO]using h
 |succ m g=>
  intro a M o h;rw[eO];split
  ·exact g (by simpa using h)
  ·rfl
def uw (b:zY):∃l j i g a e,cZ b=([l,j,i,g],a,e):=by
 have h:(cZ b).1.length=4:=by
  unfold cZ
  repeat' split
  all_goals first|rfl|exact BJ rfl
 generalize cZ b=x at h⊢;obtain⟨o,a,e⟩:=x
 match o,h with
 |[l,j,i,g],_ =>exact⟨l,j,i,g,a,e,rfl⟩
def Ps (b:zY) (x y:Int):(cu b x y).length≤b.length:=by simp[cu];omega
def GS {b:zY} :∀ {m a:Nat}{M:List (Int×Int×Int)}{o:qX},(∀x∈o,x.1.length≤b.length)→ ∀x∈(eO b m a M o).1,x.1.length≤b.length:=by
 intro m;induction m with
 |zero=>intro a M o h;simpa[eO]using h
 |succ m i=>
  intro a M o h;rw[eO];split
  ·refine i (fun x g=> ?_);rcases mem_or_eq_of_mem_set g with g|rfl
   ·exact h x g
   ·exact Ps _ _ _
  ·intro x g;simp[E4]at g;subst g;simp
def yJ (b:zY):∀x∈(cZ b).1,x.1.length≤b.length:=by
 have h:∀x∈E4,x.1.length≤b.length:=by intro x g;simp[E4]at g;subst g;simp
 unfold cZ
 repeat' split
 all_goals first|exact h|exact GS h
def DM {b:zY} :∀ {m a:Nat}{M:List (Int×Int×Int)}{o:qX},(∀x∈o,x.2=true→x.1= [])→ ∀x∈(eO b m a M o).1,x.2=true→x.1= []:=by
 intro m;induction m with
 |zero=>intro a M o h;simpa[eO]using h
 |succ m i=>
  intro a M o h;rw[eO];split
  ·refine i (fun x g=> ?_);rcases mem_or_eq_of_mem_set g with g|rfl
   ·exact h x g
   ·intro e;cases e
  ·intro x g;simp[E4]at g;subst g;simp
def v7 (b:zY):∀x∈(cZ b).1,x.2=true→x.1= []:=by
 have h:∀x∈E4,x.2=true→x.1= []:=by intro x g;simp[E4]at g;subst g;simp
 unfold cZ
 repeat' split
 all_goals first|exact h|exact DM h
def v9 {b:zY}(h:(cZ b).2.2=0):b.length≤65536:=by
 unfold cZ at h;split at h
 ·simp at h
 ·omega
end St
end Go.Proofs.YtknalmoackcpbaaGreat
namespace Go.Proofs.YtknalmoackcpbaaGreat
namespace Rw
def num_1 {b:zY}{a:Nat}(h:a<b.length):aY (cu b a 1)=b[a].toNat:=by
 have:cu b a 1= [b[a]]:=by have:=mO b a 1;rw[show((1:Nat):Int)=1 from rfl]at this;rw[this];unfold sg;rw[drop_eq_getElem_cons h];rfl
 rw[this];simp[aY]
def JA {b:zY}{a:Nat}{most:Int}(h:a<b.length):eR b a most=if most<b[a].toNat then .error ((a:Int),2)else .ok ((b[a].toNat:Int),a+1):=by unfold eR fW;rw[if_pos (by omega)];simp only;rw[show aY (cu b (a:Int) ((1:Nat):Int))=b[a].toNat from num_1 h]
def D6 {b:zY}{a n:Nat}{x:Int}(h:At b a (aX x n)) (h0:0≤x) (h1:x<256^n):fW b a n= .ok (x,a+n):=by obtain⟨i,g⟩:=h.num h0 h1;unfold fW;rw[if_pos i,g]
def PC {b:zY} :∀ {g:zY}{r:List Int}{a:Nat},r.length=g.length→om g r=true→At b a (qP g r)→gq b 0 g a= .ok (r,a+(qP g r).length):=by
 intro g;induction g with
 |nil=>
  intro r a hl _ _
  match r,hl with
  |[],_ =>simp[gq,qP]
 |cons k g i=>
  intro r a hl hf h
  match r,hl with
  |x::r,hl=>simp only[om,Bool.and_eq_true]at hf;simp only[qP]at h⊢;rw[At.app,aA]at h;obtain⟨f1,f2,f3⟩:=sv hf.1;rw[gq,D6 h.1 f1 f3];simp only;rw[i (by simpa using hl) hf.2 h.2];simp[aA];omega
def MB {b:zY}{t:Nat} :∀ {l:List (List Int)}{a:Nat},(∀r∈l,r.length=(bC (t:Int)).length)→lD t l=true→At b a (pg t l)→
 jL b 0 (bC (t:Int)) l.length a= .ok (l,a+(pg t l).length):=by
 intro l;induction l with
 |nil=>intro a _ _ _;simp[jL,pg]
 |cons r l h=>intro a hl hf g;simp only[lD,all_cons,Bool.and_eq_true]at hf;simp only[pg,flatMap_cons]at g⊢;rw[At.app]at g;rw[length_cons,jL,PC (hl r (by simp)) hf.1 g.1];simp only;rw[h (fun r i=>hl r (by simp[i])) hf.2 g.2];simp[gd,pg];omega
def Mz {b:zY} :∀ {L:List (List (List Int))}{t a:Nat},im t L=true→allFit t L=true→At b a (iw t L)→
 jK b 0 (L.map fun l=>(l.length:Int)) t a= .ok (L,a+(iw t L).length):=by
 intro L;induction L with
 |nil=>intro t a _ _ _;simp[jK,iw]
 |cons l L i=>intro t a h hf g;simp only[im,allFit,Bool.and_eq_true]at h hf;simp only[iw]at g⊢;rw[At.app]at g;rw[map_cons,jK,Int.toNat_natCast,MB (fun r j=>by simpa using all_eq_true.1 h.1 r j) hf.1 g.1];simp only;rw[i h.2 hf.2 g.2];simp[gd];omega
def tN:List (List (List Int))→Nat
 |[]=>0
 |l::r=>(if l= []then 0 else 1)+2*tN r
def GP:∀(L:List (List (List Int))) (t:Nat),mN t L=2^t*tN L:=by
 intro L;induction L with
 |nil=>intro t;simp[mN,tN]
 |cons l L g=>intro t;rw[mN,tN,g,Nat.pow_succ,Nat.mul_add];split<;>simp[Nat.mul_assoc]
def R1:∀(L:List (List (List Int))),tN L<2^L.length:=by
 intro L;induction L with
 |nil=>simp[tN]
 |cons l L g=>rw[tN,length_cons,Nat.pow_succ];split<;>omega
def Mc:∀(L:List (List (List Int))) (t:Nat),tN L/2^t=tN (L.drop t):=by
 intro L t;induction t generalizing L with
 |zero=>simp
 |succ t g=>
  cases L with
  |nil=>simp[tN]
  |cons l L=>rw[drop_succ_cons,←g,Nat.pow_succ,Nat.mul_comm,←Nat.div_div_eq_div_mul,tN];congr 1;split<;>omega
def PD {b:zY}{R:List (List (List Int))} :∀ {m t a:Nat},t+m=R.length→(∀l∈R,l.length≤65535)→At b a (kD (R.drop t))→
 jM b (tN R) m t a= .ok ((R.drop t).map (fun l=>(l.length:Int)),a+(kD (R.drop t)).length):=by
 intro m;induction m with
 |zero=>intro t a ht _ _;rw[drop_eq_nil_of_le (by omega)];simp[jM,kD]
 |succ m h=>
  intro t a ht hl g;obtain⟨l,j,hd,hm,_⟩:=gQ R (show t<R.length by omega);rw[hd]at g⊢;rw[jM,Mc,hd,tN];simp only[kD,flatMap_cons]at g⊢;rw[At.app]at g;by_cases he:l= []
  ·subst he;simp only[sD,if_true,length_nil,Nat.add_zero]at g⊢;rw[if_neg (by omega),h (by omega) hl g.2];simp[gd,kD]
  ·have i:=hl l hm;rw[show sD l=aX l.length 2 by simp[sD,he],aA]at g;simp only[he,if_false];rw[if_pos (by omega),D6 g.1 (by omega) (by simp;omega)];simp only;rw[h (by omega) hl g.2];simp[gd,kD,sD,he,aA];omega
def BX {b:zY}{a:Nat}{c:UInt8}{most:Int}(h:At b a [c]) (j:(c.toNat:Int)≤most):eR b a most= .ok ((c.toNat:Int),a+1):=by
 have h1:=h.len;simp at h1;rw[JA (by omega)];have g:=h.2;unfold sg at g;rw[drop_eq_getElem_cons (show a<b.length by omega)]at g;have i:b[a]=c:=by rw[show [c].length=1 from rfl,take_succ_cons]at g;exact(List.cons.inj g).1
 rw[i,if_neg (by omega)]
def HH {L:List (List (List Int))}(h:im 0 L=true) {k:Nat}{l:List (List Int)}(g:L[k]? =some l):∀row∈l,row.length=(bC (k:Int)).length:=by have:=zf h g;simpa using this
def D2 {R:List (List (List Int))}{en:Int}(v:eM R=true) (u:okW R en=true) (hl:∀l∈R,l.length≤65535):my (dd R en)=(some (en,R),0,0):=by
 simp only[eM,Bool.and_eq_true,decide_eq_true_eq]at v;simp only[okW,Bool.and_eq_true]at u;obtain⟨f1,f2,f3⟩:=sv u.2;have o:mN 0 R=tN R:=by rw[GP];simp
 have j:=R1 R;rw[v.1]at j;have h:(UInt8.ofNat (tN R)).toNat=tN R:=by simp;omega
 have w:At (dd R en) 0 (dd R en):=⟨by simp,by simp[sg]⟩;obtain⟨b,q⟩:∃b,dd R en=b:=⟨_,rfl⟩;rw[q]at w⊢;have g:At b 0 (dd R en):=by rw[q];exact w
 unfold dd at g;rw[o,At.app,At.app,At.app,At.cons]at g;obtain⟨⟨⟨M,K⟩,G,F⟩,E⟩:=g;simp only[length_append,length_cons,length_nil,aA]at G F E;have hlen:b.length=0+1+1+(kD R).length+2+(iw 0 R).length:=by rw[←q,dd];simp[aA];omega
 have h1:=BX (most:=3) M (by decide);have J:=BX (most:=63) K (by rw[h];omega);have y:=PD (R:=R) (b:=b) (m:=6) (t:=0) (a:=0+1+1) (by omega) hl (by simpa using G);have I:=D6 (n:=2) (by simpa using F) f1 f3;have H:=Mz (b:=b) (L:=R) (t:=0) v.2 u.1 (by simpa[Nat.add_assoc]using E);rw[drop_zero]at y;have i:kL b= .ok ((en,R),b.length):=by unfold kL;rw[h1];simp only;rw[J];simp only[h,Int.toNat_natCast];rw[y];simp only;rw[show 0+1+1+(kD R).length=2+(kD R).length by omega];rw[I];simp only;rw[show UInt8.toNat 0=0 from rfl,show 2+(kD R).length+2=2+((kD R).length+2) by omega,H,hlen];simp;omega
 unfold my;rw[i];simp
def RQ (k:UInt8) (m:Nat):(wK k 0).toNat≤(wK k m).toNat:=by
 unfold wK;by_cases h:k=52
 ·simp[h]
 ·simp[h];split<;>omega
def O6 {b:zY}{a:Nat}{k:UInt8}(h:a+(wK k 0).toNat≤b.length):fm (aY (cu b a (wK k 0).toNat)) (wK k 0)=true:=by obtain⟨h1,g⟩:=ry h;rcases Bz k 0 with e|e<;>rw[e]at h1 g⊢ <;>simp at h1 g<;>simp[fm]<;>omega
def PE {b:zY}{mk:Nat} :∀ {g:zY}{a:Nat}{r:List Int}{i:Nat},gq b mk g a= .ok (r,i)→
 r.length=g.length∧a+(qP g r).length≤i∧(mk=0→om g r=true):=by
 intro g;induction g with
 |nil=>intro a r i h;cases h;exact⟨rfl,by simp[qP],fun _ =>rfl⟩
 |cons k g q=>
  intro a r i h;rw[gq]at h;cases l:fW b a (wK k mk).toNat with
  |error e=>rw[l]at h;cases h
  |ok z=>
   obtain⟨v,u⟩:=z;rw[l]at h;simp only at h;obtain⟨o,n,w⟩:=fx l;cases j:gq b mk g u with
   |error e=>rw[j]at h;cases h
   |ok z=>obtain⟨y,E⟩:=z;rw[j]at h;cases h;obtain⟨i1,i2,i3⟩:=q j;have hw:=RQ k mk;refine⟨by simp[i1],by simp only[qP,length_append,aA];omega,fun hm=> ?_⟩;subst hm;simp only[om,i3 rfl,Bool.and_true];rw[n];exact O6 o
def MD {b:zY}{mk t:Nat} :∀ {n a:Nat}{l:List (List Int)}{g:Nat},jL b mk (bC (t:Int)) n a= .ok (l,g)→
 l.length=n∧(∀r∈l,r.length=(bC (t:Int)).length)∧a+(pg t l).length≤g∧(mk=0→lD t l=true):=by
 intro n;induction n with
 |zero=>intro a l g h;cases h;exact⟨rfl,by simp,by simp[pg],fun _ =>rfl⟩
 |succ n w=>
  intro a l g h;rw[jL]at h;cases o:gq b mk (bC (t:Int)) a with
  |error e=>rw[o]at h;cases h
  |ok z=>
   obtain⟨v,y⟩:=z;rw[o]at h;simp only at h;obtain⟨u,E,q⟩:=PE o;cases j:jL b mk (bC (t:Int)) n y with
   |error e=>rw[j]at h;cases h
   |ok z=>
    obtain⟨F,G⟩:=z;rw[j]at h;cases h;obtain⟨i1,i2,i3,i4⟩:=w j;refine⟨by simp[i1],?_,by simp only[pg,singleton_append,flatMap_cons,length_append]at i3⊢;omega,fun hm=> ?_⟩
    ·intro r i;rcases mem_cons.1 (by simpa using i)with rfl|i
     ·exact u
     ·exact i2 r i
    ·simp only[lD,singleton_append,all_cons,q hm,Bool.true_and];exact i4 hm
def MC {b:zY}{mk:Nat} :∀ {cs:List Int}{t a:Nat}{L:List (List (List Int))}{g:Nat},jK b mk cs t a= .ok (L,g)→
 L.map (fun l=>(l.length:Int))=cs.map (fun c=>(c.toNat:Int))∧im t L=true∧a+(iw t L).length≤g∧(mk=0→allFit t L=true):=by
 intro cs;induction cs with
 |nil=>intro t a L g h;cases h;exact⟨rfl,rfl,by simp[iw],fun _ =>rfl⟩
 |cons c cs u=>
  intro t a L g h;rw[jK]at h;cases j:jL b mk (bC (t:Int)) c.toNat a with
  |error e=>rw[j]at h;cases h
  |ok z=>
   obtain⟨v,y⟩:=z;rw[j]at h;simp only at h;obtain⟨q,o,E,n⟩:=MD j;cases i:jK b mk cs (t+1) y with
   |error e=>rw[i]at h;cases h
   |ok z=>
    obtain⟨F,G⟩:=z;rw[i]at h;cases h;obtain⟨i1,i2,i3,i4⟩:=u i;refine⟨by simp[q,i1],?_,by simp only[iw,singleton_append,length_append];omega,fun hm=> ?_⟩
    ·simp only[singleton_append,im,i2,Bool.and_true];exact all_eq_true.2 fun r w=>by simpa using o r w
    ·simp[allFit,n hm,i4 hm]
def PF {b:zY}{n:Nat} :∀ {m t a:Nat}{cs:List Int}{i:Nat},jM b n m t a= .ok (cs,i)→a≤b.length→
 cs.length=m∧ ∀L:List (List (List Int)),L.map (fun l=>(l.length:Int))=cs.map (fun c=>(c.toNat:Int))→a+(kD L).length≤i:=by
 intro m;induction m with
 |zero=>intro t a cs i h _;cases h;exact⟨rfl,fun L j=>by(have:L= []:=by simpa using j);subst this;simp[kD]⟩
 |succ m w=>
  intro t a cs i h ha;rw[jM]at h;have key:∀(v:Int) (g:Nat),(v.toNat=0∨a+2≤g)→a≤g→g≤b.length→gd [v] (jM b n m (t+1) g)= .ok (cs,i)→
   cs.length=m+1∧ ∀L:List (List (List Int)),L.map (fun l=>(l.length:Int))=cs.map (fun c=>(c.toNat:Int))→a+(kD L).length≤i:=by
   intro v g K E o h;cases q:jM b n m (t+1) g with
   |error e=>rw[q]at h;cases h
   |ok z=>
    obtain⟨J,M⟩:=z;rw[q]at h;cases h;obtain⟨i1,i2⟩:=w q o;refine⟨by simp[i1],fun L j=> ?_⟩;cases L with
    |nil=>simp at j
    |cons l L=>
     simp at j;have:=i2 L (by simpa using j.2);have F:(kD (l::L)).length=(sD l).length+(kD L).length:=by simp only[kD,flatMap_cons,length_append]
     rw[F];by_cases he:l= []
     ·rw[show sD l= [] by simp[sD,he],length_nil];omega
     ·have y:0<l.length:=length_pos_iff.2 he;rw[show sD l=aX l.length 2 by simp[sD,he],aA];omega
  split at h
  ·cases u:fW b a 2 with
   |error e=>rw[u]at h;cases h
   |ok z=>obtain⟨v,g⟩:=z;rw[u]at h;obtain⟨I,H,G⟩:=fx u;exact key v g (.inr (by omega)) (by omega) (by omega) h
  ·exact key 0 a (.inl rfl) (by omega) ha h
def D3 {b:zY}{en:Int}{T:List (List (List Int))}(h:my b=(some (en,T),0,0)):
 eM T=true∧(dd T en).length≤b.length∧(b.getD 0 0=0→okW T en=true)∧(∀l∈T,l.length≤65535)∧fm en 2=true∧0<b.length:=by
 rcases mw b with⟨e,_,j⟩|⟨v,a,g,⟨_,j⟩|⟨ha,j⟩⟩
 ·rw[j]at h;cases h
 ·rw[j]at h;cases h
 rw[j]at h;cases h;have O:=B2 g;unfold kL at g;cases h1:eR b 0 3 with
 |error e=>rw[h1]at g;cases g
 |ok z=>
  obtain⟨mk,a1⟩:=z;rw[h1]at g;simp only at g;cases E:eR b a1 63 with
  |error e=>rw[E]at g;cases g
  |ok z=>
   obtain⟨J,a2⟩:=z;rw[E]at g;simp only at g;obtain⟨p1,K,p3⟩:=fx (nI h1).1;obtain⟨q1,q2,q3⟩:=fx (nI E).1;cases o:jM b J.toNat 6 0 a2 with
   |error e=>rw[o]at g;cases g
   |ok z=>
    obtain⟨cs,G⟩:=z;rw[o]at g;simp only at g;cases y:fW b G 2 with
    |error e=>rw[y]at g;cases g
    |ok z=>
     obtain⟨P,a4⟩:=z;rw[y]at g;simp only at g;obtain⟨I,H,z3⟩:=fx y;cases w:jK b mk.toNat cs 0 a4 with
     |error e=>rw[w]at g;cases g
     |ok z=>
      obtain⟨T',a5⟩:=z;rw[w]at g;cases g;obtain⟨t1,t2,t3,t4⟩:=MC w;obtain⟨X,V⟩:=PF o (by omega);obtain⟨Q,c4⟩:=B1 o (by omega);have c5:=V T t1;have u:T.length=6:=by have:=congrArg List.length t1;simpa[X]using this
      have i:fm en 2=true:=by obtain⟨Y,F⟩:=ry (b:=b) (a:=G) (n:=2) I;rw[←H]at Y F;simp at F;simp[fm];omega
      refine⟨by simp[eM,u,t2],?_,fun h0=> ?_,fun l hl=> ?_,i,by omega⟩
      ·simp only[dd,length_append,length_cons,length_nil,aA];omega
      ·have q:mk.toNat=0:=by rw[K];rw[show aY (cu b ((0:Nat):Int) ((1:Nat):Int))=b[0].toNat from num_1 (by omega)];rw[getD_eq_getElem?_getD,getElem?_eq_getElem (by omega)]at h0;simp at h0;rw[h0];rfl
       simp[okW,t4 q,i]
      ·have:(l.length:Int)∈T.map (fun l=>(l.length:Int)):=mem_map.2 ⟨l,hl,rfl⟩;rw[t1]at this;obtain⟨c,M,L⟩:=mem_map.1 this;have:=Q c M;omega
def AM {b:zY}{a n:Nat}{e:Int×Int}(h:fW b a n= .error e):e.2≠0:=by rw[(BZ h).2];simp
def Qx {b:zY}{mk:Nat} :∀ {g:zY}{a:Nat}{e:Int×Int},gq b mk g a= .error e→e.2≠0:=by
 intro g;induction g with
 |nil=>intro a e h;cases h
 |cons k g l=>
  intro a e h;rw[gq]at h;cases j:fW b a (wK k mk).toNat with
  |error n=>rw[j]at h;cases h;exact AM j
  |ok z=>
   obtain⟨v,o⟩:=z;rw[j]at h;simp only at h;cases i:gq b mk g o with
   |error n=>rw[i]at h;cases h;exact l i
   |ok z=>rw[i]at h;cases h
def NF {b:zY}{mk:Nat}{g:zY} :∀ {n a:Nat}{e:Int×Int},jL b mk g n a= .error e→e.2≠0:=by
 intro n;induction n with
 |zero=>intro a e h;cases h
 |succ n l=>
  intro a e h;rw[jL]at h;cases j:gq b mk g a with
  |error o=>rw[j]at h;cases h;exact Qx j
  |ok z=>
   obtain⟨v,q⟩:=z;rw[j]at h;simp only at h;cases i:jL b mk g n q with
   |error o=>rw[i]at h;cases h;exact l i
   |ok z=>rw[i]at h;cases h
def ND {b:zY}{mk:Nat} :∀ {cs:List Int}{t a:Nat}{e:Int×Int},jK b mk cs t a= .error e→e.2≠0:=by
 intro cs;induction cs with
 |nil=>intro t a e h;cases h
 |cons c cs j=>
  intro t a e h;rw[jK]at h;cases i:jL b mk (bC (t:Int)) c.toNat a with
  |error l=>rw[i]at h;cases h;exact NF i
  |ok z=>
   obtain⟨v,n⟩:=z;rw[i]at h;simp only at h;cases g:jK b mk cs (t+1) n with
   |error l=>rw[g]at h;cases h;exact j g
   |ok z=>rw[g]at h;cases h
def Qy {b:zY}{i:Nat} :∀ {m t a:Nat}{e:Int×Int},jM b i m t a= .error e→e.2≠0:=by
 intro m;induction m with
 |zero=>intro t a e h;cases h
 |succ m l=>
  intro t a e h;rw[jM]at h;split at h
  ·cases j:fW b a 2 with
   |error n=>rw[j]at h;cases h;exact AM j
   |ok z=>
    obtain⟨v,o⟩:=z;rw[j]at h;simp only at h;cases g:jM b i m (t+1) o with
    |error n=>rw[g]at h;cases h;exact l g
    |ok z=>rw[g]at h;cases h
  ·cases g:jM b i m (t+1) a with
   |error n=>rw[g]at h;cases h;exact l g
   |ok z=>rw[g]at h;cases h
def CQ {b:zY}{a:Nat}{most:Int}{e:Int×Int}(h:eR b a most= .error e):e.2≠0:=by
 rcases wG h with h|⟨h,_⟩
 ·exact AM h
 ·rw[h];simp
def Qz {b:zY}{e:Int×Int}(g:kL b= .error e):e.2≠0:=by
 unfold kL at g;cases h1:eR b 0 3 with
 |error h=>rw[h1]at g;cases g;exact CQ h1
 |ok z=>
  obtain⟨mk,y⟩:=z;rw[h1]at g;simp only at g;cases n:eR b y 63 with
  |error h=>rw[n]at g;cases g;exact CQ n
  |ok z=>
   obtain⟨o,w⟩:=z;rw[n]at g;simp only at g;cases l:jM b o.toNat 6 0 w with
   |error h=>rw[l]at g;cases g;exact Qy l
   |ok z=>
    obtain⟨cs,v⟩:=z;rw[l]at g;simp only at g;cases j:fW b v 2 with
    |error h=>rw[j]at g;cases g;exact AM j
    |ok z=>
     obtain⟨q,u⟩:=z;rw[j]at g;simp only at g;cases i:jK b mk.toNat cs 0 u with
     |error h=>rw[i]at g;cases g;exact ND i
     |ok z=>rw[i]at g;cases g
def te (b:zY):(∃a e,my b=(none,a,e)∧e≠0)∨ ∃en T,my b=(some (en,T),0,0):=by
 rcases mw b with⟨e,h,g⟩|⟨v,a,h,⟨_,g⟩|⟨ha,g⟩⟩
 ·exact .inl ⟨_,_,g,Qz h⟩
 ·exact .inl ⟨_,_,g,by decide⟩
 ·exact .inr ⟨v.1,v.2,g⟩
end Rw
end Go.Proofs.YtknalmoackcpbaaGreat
